/-
What is proved: the starter makes its way as a lone run of the second program does and what rests on it. Conditions: as stated.
-/
import Derived.Test.YtlhohdjniaebbaaGreatRy24
import Derived.Test.YtlhohdjniaebbaaGreatRy11
import Derived.Below
import Derived.Conc.LeavingOf
import Derived.Test.YtlhohdjniaebbaaGreatRy19
import Derived.Test.YtlhohdjniaebbaaGreatRy16
import Derived.Test.YtlhohdjniaebbaaGreatRy22
set_option linter.unusedVariables false
set_option linter.unusedSimpArgs false
namespace Go.Proofs.YtlhohdjniaebbaaGreat.Sr
open Go Go.Conc Go.ConcN
def B9 (n:Nat)(a:Nat→eH)(v:World)(e:Ending)(w1:World):Prop:=
 ∃B,e= .returned (.slice (some ⟨B,0,none⟩) n n)∧v.heap.size≤B∧(∃cs,w1.heap[B]?=some (.cells cs 170)∧cs.size=5*n∧∀i c,i<n→c<5→cs[5*i+c]?=some ((a i).cell c))∧
  (∀b,b<v.heap.size→w1.heap[b]?=v.heap[b]?)∧w1.os=v.os
def zc (us:Array Value)(h:Array Obj):Prop:=∃(ga:Addr) (gl gc sb so sc n:Nat) (ms:Int) (gs:Nat→Int) (a:Nat→eH),us= #[.slice (some ga) gl gc,.slice (some ⟨sb,so,none⟩) n sc,.int .i64 ms]∧1≤n∧n≤5∧0<gl∧∀v:World,v.heap=h→
 (∀i,i<n→v.cell? ⟨sb,so+i,none⟩=some (.int .i64 (gs i)))∧
 (∀i,i<n→∀(u:World) (gb mb:Nat),(∀q:Addr,q.block<v.heap.size→u.cell? q=v.cell? q)→u.cell? ⟨gb,0,none⟩=some (.slice (some ga) gl gc)→u.cell? ⟨mb,0,none⟩=some (.int .i64 ms)→
    Calls Tw.prog 187 #[.int .i64 (gs i),ptr gb,ptr mb] u fun e _=>e= .returned (a i).val)∧
 Calls Tw.prog Tw.iy us v (B9 n a v)
def Bi (m:aD)(g:FuncId→Bool):aD:=⟨fun r=>if(m r).isSome then some r else none,g⟩
section
variable {m:aD}{g:FuncId→Bool}{v w:World}
theorem W1 {r t:Nat}(h:m r=some t):(Bi m g) r=some r:=by
 show(if(m r).isSome then some r else none)=some r
 rw[h];rfl
theorem Ep {r t:Nat}(h:(Bi m g) r=some t):r=t∧∃u,m r=some u:=by
 have h':(if(m r).isSome then some r else none)=some t:=h
 cases e:m r with
 |none=>rw[e]at h';cases h'
 |some u=>rw[e]at h';exact⟨Option.some.inj h',u,rfl⟩
theorem bA.left {a b:Addr}(h:bA m a b):bA (Bi m g) a a:=⟨W1 h.1,rfl,h.2.2.1,h.2.2.1⟩
theorem VR.left (hg:∀f,m.good f=true→cA f=none→g f=true){x y:Value}(h:VR m x y):VR (Bi m g) x x:=by
 induction h with
 |bool b=>exact .bool b
 |int k n=>exact .int k n
 |string s=>exact .string s
 |nilPtr=>exact .nilPtr
 |ptr h=>exact .ptr h.left
 |cp l c=>exact .cp l c
 |slice l c h=>exact .slice l c h.left
 |dO=>exact .dO
 |j_=>exact .j_
 |nilFunc=>exact .nilFunc
 |nilIface=>exact .nilIface
 |iface t ht _ ih=>exact .iface t ht ih
 |func f hf hs _ ht _ ih ye=>
  refine .func f ?_ rfl (fun i h1 h2=>ih i h1 (hs▸h1)) rfl (fun i h1 h2=>ye i h1 (ht▸h1))
  cases f with
  |func f=>exact⟨hg f hf.1 hf.2,hf.2⟩
  |_=>exact hf.elim
 |agg hs _ ih=>exact .agg rfl (fun i h1 h2=>ih i h1 (hs▸h1))
 |tuple hs _ ih=>exact .tuple rfl (fun i h1 h2=>ih i h1 (hs▸h1))
 |fS=>exact .nilFunc
theorem AR.left (hg:∀f,m.good f=true→cA f=none→g f=true){us vs:Array Value}(h:AR m us vs):AR (Bi m g) us us:=⟨rfl,fun i h1 h2=>(h.2 i h1 (h.1▸h1)).left hg⟩
theorem WR.left (hg:∀f,m.good f=true→cA f=none→g f=true)(h:WR m v w):WR (Bi m g) v v:=by
 refine⟨fun r s t hr hs=>(Ep hr).1.trans (Ep hs).1.symm,fun r t hr=>?_,rfl,rfl,rfl⟩
 obtain⟨rfl,u,hu⟩:=Ep hr;obtain⟨o,p,h1,h2,h3⟩:=h.iX r u hu;refine⟨o,o,h1,h1,?_⟩;rcases h3 with⟨us,vs,e,fz,gz,rfl,rfl,hf,ha⟩|⟨a,b,l,rfl,rfl,ha⟩
 ·exact .inl ⟨us,us,e,fz,fz,rfl,rfl,Fz.refl _,ha.left hg⟩
 ·exact .inr ⟨a,a,l,rfl,rfl,ha.left⟩
end
theorem T6 {spec:FuncId→Bool}{m:aD}(B:fg nO Tw.prog Tw.prog.funcs spec m.good)(Bg:mL spec){Rf:Ending→World→Prop}(hO:∀w,¬Rf .outgrown w)(hP:∀c w,¬Rf (.panicked c) w){f' f:Frame}{fs' fs:List Frame}{v:World}
  (he:kg Tw.prog Tw.prog.funcs spec m f' f) (pA:h_ Tw.prog spec m fs' fs) (cv:fs'≠[]):¬Ends Tw.prog (aO Tw.prog Rf) f' (fs'++[bz]) v:=by
 intro hE;obtain⟨g,us,vs,e1,h1,h2,_,h3⟩:=oy he;subst h1;rcases Bg g e1 with this|⟨hA,this⟩
 ·subst this
  obtain⟨a,b,x,rfl⟩:=Eo (h3 3 rfl);obtain⟨v',_,hR⟩:=p_ (R:=Rf) hO (gs:=fs') rfl (lI B pA) hE;exact hP _ _ hR
 ·subst this
  obtain⟨v',_,hR⟩:=sN hA (R:=Rf) hO h3 (gs:=fs') rfl (lI B pA) hE;exact hP _ _ hR
structure MI (N0:Nat) (m:aD) (v w0:World) (γ:Gh) (w:World):Prop where
 ph:γ.ph=none
 sh:∀r t,m r=some t→¬γ.sh t
 QB:∀b,γ.sh b→N0≤b
 old:∀t,t<N0→w.heap[t]?=w0.heap[t]?
 jb:∀r t,m r=some t→t<N0→dG v r
 same:bq w0 w
 size:N0≤w.heap.size
 cX:∀b,γ.sh b→b<w.heap.size
section
variable {N0:Nat}{m n:aD}{w0 w w1:World}{γ:Gh}{v v1:World}
theorem MI.heap {w':World}(h:MI N0 m v w0 γ w)(e:w'.heap=w.heap)(s:bq w w'):MI N0 m v w0 γ w':=
 ⟨h.ph,h.sh,h.QB,fun t h1=>by rw[e];exact h.old t h1,h.jb,h.same.trans s,by rw[e];exact h.size,fun b hb=>by rw[e];exact h.cX b hb⟩
theorem MI.step {t:Trace}{j:Nat}{T:Nat→Question→Nat}{d:Nat}(h:MI N0 m v w0 γ w)(hJ:JJ γ w t j)(hK:Kept m n (v.on T d) w v1 w1):MI N0 n v1 w0 γ w1:=by
 have fr:∀r t,n r=some t→m r=some t∨w.heap.size≤t:=fun r t hr=>(hK.fresh r t hr).imp id fun x=>x.2
 refine⟨h.ph,fun r t hr hs=>?_,h.QB,fun t ht=>?_,fun r t hr ht=>?_,h.same.trans ⟨hK.tape,hK.os,hK.output⟩,Nat.le_trans h.size hK.jL,fun b hb=>Nat.lt_of_lt_of_le (h.cX b hb) hK.jL⟩
 ·rcases fr r t hr with h1|h1
  ·exact h.sh r t h1 hs
  ·have:=hJ.cX t hs;omega
 ·rw[hK.old t (Nat.lt_of_lt_of_le ht h.size) fun r hr=>h.jb r t hr ht]
  exact h.old t ht
 ·rcases fr r t hr with h1|h1
  ·exact(show dG (v.on T d) r from h.jb r t h1 ht).same (hK.jb r (h.jb r t h1 ht))
  ·have:=h.size;omega
end
section
variable {spec oB good jU:FuncId→Bool}{R:Ending→World→Prop}{N0:Nat}{w0:World}{Q:Gh→World→Trace→Nat→Outcome→World→Prop}
theorem B_ {m n:aD}{γ:Gh}{v w v1 w1:World}{t:Trace}{j:Nat}{es:Array Event}{fn:FuncId}{pos:String}{v0:World}(hM:MI N0 m v0 w0 γ w)(hJ:JJ γ w t j)(hK:Kept m n v w v1 w1)(aG:WR n v1 w1)(he:om n v es):
  JJ γ w1 (t++MemOp.ofEvents 0 fn pos es) j∧∀k',k'≠0→RR k' γ w γ w1:=by
 obtain⟨x1,x2,x3⟩:=hJ.none hM.ph;refine vG hJ ⟨hK.tape,hK.os,hK.output⟩ hK.jL (fun b hb hh=>?_) fun e KV=>?_
 ·refine hK.old b hb fun r hr=>?_
  rcases hh with⟨k,hk⟩|hk|⟨p,hp,_⟩
  ·exact hk.elim (fun hk=>absurd hk (x1 k b).1) (fun hk=>absurd hk (x1 k b).2)
  ·exact absurd hk (hM.sh r b hr)
  ·rw[hM.ph]at hp;cases hp
 ·obtain⟨e',h1,h2⟩:=he e KV
  obtain⟨f1,f2,f3,_⟩:=AF.facts (B:=w1.heap.size) h1;refine⟨fun x hx=> .inr ?_,f2 fun r b hr=>(aG.lt hr).2,f3⟩
  obtain⟨r,b,g1,g2,g3⟩:=f1 x hx;have Fs:¬γ.sh b:=by
   rcases hK.fresh r b g1 with h3|⟨_,h4⟩
   ·exact hM.sh r b h3
   ·intro hs;have:=hJ.cX b hs;omega
  refine⟨?_,fun k _ _ hk=>?_,fun _ k _ _ hk=>?_⟩
  ·rintro⟨a,ha,hs⟩
   rw[ha]at g2;injection g2 with g2
   exact Fs (g2▸hs)
  ·rcases hk with⟨b',_,hk⟩|⟨a,_,p,hp,_⟩
   ·exact(x1 k b').1 hk
   ·rw[hM.ph]at hp;cases hp
  ·obtain⟨b',_,hk⟩:=hk
   exact(x1 k b').2 hk
structure T7 (spec good:FuncId→Bool) (R:Ending→World→Prop) (N0:Nat) (w0:World) (Q:Gh→World→Trace→Nat→Outcome→World→Prop):Prop where
 one:∀{us vs:Array Value} {fs' fs:List Frame} {m:aD} {γ:Gh} {w v:World},spec bp=true→m.good=good→AR m us vs→(∀n,cA bp=some n→us.size=n)→h_ Tryz.prog spec m fs' fs→fs'≠[]→WR m (v.on w.tape w.drawn) w→MI N0 m v w0 γ w→Ends Tw.prog (aO Tw.prog R) (Frame.enter Tw.prog bp us .normal) (fs'++[bz]) v→
    (∀{n:aD} {f1' f1:Frame} {v1 w1:World} {γ1:Gh},jJ Tw.prog (aO Tw.prog R) (Frame.enter Tw.prog bp us .normal,fs'++[bz],v) (f1',fs'++[bz],v1)→Ends Tw.prog (aO Tw.prog R) f1' (fs'++[bz]) v1→n.good=good→FR Tryz.prog spec n f1' f1→h_ Tryz.prog spec n fs' fs→WR n (v1.on w1.tape w1.drawn) w1→MI N0 n v1 w0 γ1 w1→MP (sys Tryz.prog) Q false 0 γ1 w1 (G f1 fs))→
    MP (sys Tryz.prog) Q false 0 γ w (G (Frame.enter Tryz.prog bp vs .normal) fs)
 two:∀{f' f:Frame} {fs' fs:List Frame} {m:aD} {γ:Gh} {w v:World},m.good=good→FR Tryz.prog spec m f' f→f.todo=[]→f.defers≠[]→h_ Tryz.prog spec m fs' fs→WR m (v.on w.tape w.drawn) w→MI N0 m v w0 γ w→Ends Tw.prog (aO Tw.prog R) f' (fs'++[bz]) v→
    (∀{n:aD} {f1' f1:Frame} {bM gs:List Frame} {v1 w1:World} {γ1:Gh},jJ Tw.prog (aO Tw.prog R) (f',fs'++[bz],v) (f1',bM++[bz],v1)→Ends Tw.prog (aO Tw.prog R) f1' (bM++[bz]) v1→n.good=good→FR Tryz.prog spec n f1' f1→h_ Tryz.prog spec n bM gs→WR n (v1.on w1.tape w1.drawn) w1→MI N0 n v1 w0 γ1 w1→MP (sys Tryz.prog) Q false 0 γ1 w1 (G f1 gs))→
    MP (sys Tryz.prog) Q false 0 γ w (G f fs)
set_option maxRecDepth 100000 in
theorem QC (B:fg nO Tryz.prog Tw.prog.funcs spec good)(Bg:mL spec)(T8:mL oB)(T3:spec 187=false)(Iv:good 187=true)
  (BS:fg nO Tw.prog Tw.prog.funcs oB jU) (ZH:oB Tw.iy=false) (bW:∀f,good f=true→cA f=none→jU f=true) (ZI:jU Tw.iy=true)
  (hO:∀w,¬R .outgrown w) (hP:∀x w,Plain nO (.panic x)→¬R (.panicked [{v:=x,recovered:=false}]) w) (hA:∀us w,R (.panicked [{v:=kW us,recovered:=false}]) w→zc us w.heap)
  (W2:T7 spec good R N0 w0 Q)
  (abc:∀{γ:Gh} {w:World} {t:Trace} {j:Nat} {m:aD} {f' f:Frame} {v:World},JJ γ w t j→Deaf t 0=0→MI N0 m v w0 γ w→m.good=good→WR m (v.on w.tape w.drawn) w→FR Tryz.prog spec m f' f→f'.mode= .returning→Ends Tw.prog (aO Tw.prog R) f' [bz] v→
   ∃o w1 es,stepG Tryz.prog true (G f []) w= .ended o w1 es∧Q γ w (t++MemOp.ofEvents 0 f.fn f.place es) j o w1):
  ∀{f':Frame} {bZ:List Frame} {v:World},Ends Tw.prog (aO Tw.prog R) f' bZ v→∀{fs' fs:List Frame} {m:aD} {f:Frame} {γ:Gh} {w:World},bZ=fs'++[bz]→m.good=good→
   (FR Tryz.prog spec m f' f∨(kg Tryz.prog Tw.prog.funcs spec m f' f∧fs'≠[]))→h_ Tryz.prog spec m fs' fs→WR m (v.on w.tape w.drawn) w→MI N0 m v w0 γ w→MP (sys Tryz.prog) Q false 0 γ w (G f fs):=by
 intro f' bZ v hE;refine Ends.ind (Q:=Tw.prog) (Stop:=aO Tw.prog R) (C:=fun f' bZ v=>∀{fs' fs:List Frame} {m:aD} {f:Frame} {γ:Gh} {w:World},bZ=fs'++[bz]→m.good=good→
   (FR Tryz.prog spec m f' f∨(kg Tryz.prog Tw.prog.funcs spec m f' f∧fs'≠[]))→h_ Tryz.prog spec m fs' fs→WR m (v.on w.tape w.drawn) w→MI N0 m v w0 γ w→MP (sys Tryz.prog) Q false 0 γ w (G f fs)) ?_ hE
 intro f' bZ v hE ih fs' fs m f γ w sI hg hf hs hw hM;subst sI hg;rcases hf with hf|⟨hf,cv⟩
 ·by_cases F_:f'.mode= .returning∧fs'=[]
  ·
   obtain⟨hl,rfl⟩:=F_
   cases hs;refine .mk rfl nofun nofun fun γ1 w1 t1 j1 h1 jF sJ _=>?_;obtain⟨rfl,e1,s1⟩:=gq hM.ph (ia h1);have aG:WR m (v.on w1.tape w1.drawn) w1:=hw.stay (fun r t _=>by rw[e1]) s1
   obtain⟨o,w2,es,q1,q2⟩:=abc jF sJ (hM.heap e1 s1) rfl aG hf hl hE;exact⟨.fin o w2 es,⟨q1,q2⟩,fun x b' e=>(by cases e),fun x b' e=>(by cases e)⟩
  ·
   by_cases W3:f.todo=[]∧f.defers≠[]
   ·exact W2.two rfl hf W3.1 W3.2 hs hw hM hE fun q1 q2 q3 q4 q5 q6 q7=>ih _ _ _ q1 q2 rfl q3 (.inl q4) q5 q6 q7
   have hl:¬Edge f' f fs':=fun e=>e.elim F_ W3
   refine .go rfl fun γ1 w1 t1 j1 h1 jF sJ=>?_;obtain⟨rfl,e1,s1⟩:=gq hM.ph (ia h1);have aG:WR m (v.on w1.tape w1.drawn) w1:=hw.stay (fun r t _=>by rw[e1]) s1
   have hM1:=hM.heap e1 s1;obtain⟨n,g1',g1,aa2,S9,v2,w2,es,aQ,q1,q2,q3,q4,q5,q6,q7,q8, -⟩:=sE (e:=[]) B hO hP hE hf hs w1.tape w1.drawn aG hl true;obtain⟨k1,k2⟩:=hE.go (nF B hO hf hl) q1 q2;rw[List.append_nil,List.append_nil]at q3;obtain⟨a1,a2⟩:=B_ (fn:=(G f fs).frame.fn) (pos:=(G f fs).frame.place) hM1 jF q7 q6 q8;refine⟨⟨G g1 S9,w2,es,γ1⟩,false,⟨q3,a1,a2⟩,?_⟩;show MP (sys Tryz.prog) Q false (deafBehind 0 es) γ1 w2 (G g1 S9)
   rw[q8.hears];refine ih _ _ _ k2 k1 rfl q7.le.good.symm q4 q5 ?_ (hM1.step jF q7);have e1:w2.tape=v2.tape:=q6.tape
   have e2:w2.drawn=v2.drawn:=q6.drawn
   rw[e1,e2];exact q6
 ·
  obtain⟨g,us,vs,fc,rfl,rfl,rh,jj⟩:=oy hf;rcases Bg g fc with Bh|⟨-,Bh⟩;rotate_left
  ·subst Bh
   exact W2.one fc rfl rh jj hs cv hw hM hE fun q1 q2 q3 q4 q5 q6 q7=>ih _ _ _ q1 q2 rfl q3 (.inl q4) q5 q6 q7
  subst Bh;obtain⟨x0,x1,x2,rfl⟩:=Eo (jj 3 rfl);have Wp:Ends Tw.prog (aO Tw.prog R) (Frame.enter Tw.prog di #[x0,x1,x2] .normal) (fs'++[bz]) v:=hE
  have gp:zc #[x0,x1,x2] v.heap:=by
   obtain⟨v',e1,h1⟩:=p_ hO rfl (lI B hs) Wp;have:=hA _ _ h1
   rw[e1]at this;exact this
  obtain⟨ga,gl,gc,sb,so,sc,n,ms,gs,a,sw,n1,n5,gl1,cS⟩:=gp;obtain⟨aY,T9,_⟩:=cS v rfl
  cases hs with
  |nil=>exact absurd rfl cv
  | @cons c' c bM fs hc yw abe=>
    obtain⟨d,ds,W4⟩:∃d ds,bM++[bz]=d::ds:=by cases bM with
     |nil=>exact⟨_,_,rfl⟩
     |cons d ds=>exact⟨_,_,rfl⟩
    obtain⟨T1,d1,KW⟩:=Te hO Wp;have hwl:WR (Bi m jU) (v.on T1 d1) (v.on T1 d1):=by
     have h1:=hw.left (g:=jU) bW;exact⟨h1.inj,h1.iX,rfl,rfl,rfl⟩
    have fO:FR Tw.prog oB (Bi m jU) (Frame.enter Tw.prog Tw.iy #[x0,x1,x2] .normal) (Frame.enter Tw.prog Tw.iy #[x0,x1,x2] .normal):=
     FR.enter (P:=Tw.prog) (F:=Tw.prog.funcs) (m:=Bi m jU) BS ZI ZH (rh.left bW)
    have gr:Ends Tw.prog (aO Tw.prog (B9 n a v)) (Frame.enter Tw.prog Tw.iy #[x0,x1,x2] .normal) [bz] (v.on T1 d1):=
     ends_of_calls (fun w h=>by obtain⟨_,h,_⟩:=h;cases h) fun T=>(cS ((v.on T1 d1).on T 0) rfl).2.2
    obtain⟨y,v1,T2,d2,hR,KX⟩:=KZ (Q:=Tw.prog) (R:=R) (spec:=oB) (good:=jU) (Rf:=B9 n a v) BS (fun {n f' f fs' fs v} QA he pA cv=>T6 (QA▸BS) T8 (fun w h=>by obtain⟨_,h,_⟩:=h;cases h) (fun c w h=>by obtain⟨_,h,_⟩:=h;cases h) he pA cv) (fun w h=>by obtain⟨_,h,_⟩:=h;cases h) (fun c w h=>by obtain⟨_,h,_⟩:=h;cases h)
     (c:=fA x0 x1 x2) (cs:=c'::bM++[bz]) (by simp) gr (fs':=[]) (m:=Bi m jU) rfl rfl fO .nil hwl KW.1
    have abf:kM Tw.prog (aO Tw.prog R) (Frame.enter Tw.prog Tw.iy #[x0,x1,x2] .normal,fA x0 x1 x2::(c'::bM++[bz]),v.on T1 d1) ((fA x0 x1 x2).finish y,c'::bM++[bz],v1):=KX
    have S4:=KW.trans abf;obtain⟨Bk,hy,hBk,⟨cells,mA,eJ,hc3⟩,hold,hos⟩:=hR;have hF4:kM Tw.prog (aO Tw.prog R) ((fA x0 x1 x2).finish y,c'::bM++[bz],v1) (c'.finish y,bM++[bz],v1):=by
     have h1:=S4.1;show kM _ _ (_,c'::(bM++[bz]),_) _
     rw[W4];refine PJ hO ?_;rw[←W4];exact h1
    have hF5:=S4.trans hF4;have ZK:jJ Tw.prog (aO Tw.prog R) (Frame.enter Tw.prog di #[x0,x1,x2] .normal,c'::bM++[bz],v) (c'.finish y,bM++[bz],v1):=by
     rcases hF5.2 with h1|h1
     ·have h2:=congrArg (fun z:Frame×List Frame×World=>z.2.1.length) h1
      simp at h2
     ·exact h1
    injection hy with hy
    subst hy;have abg:x0= .slice (some ga) gl gc∧x1= .slice (some ⟨sb,so,none⟩) n sc∧x2= .int .i64 ms:=by
     have h0:=congrArg (fun z:Array Value=>z[0]?) sw
     have h1:=congrArg (fun z:Array Value=>z[1]?) sw
     have h2:=congrArg (fun z:Array Value=>z[2]?) sw
     simp at h0 h1 h2
     exact⟨h0,h1,h2⟩
    obtain⟨rfl,rfl,rfl⟩:=abg;obtain⟨z0,z1,z2,rfl⟩:=Eo (us:=vs) (by rw[←rh.1];rfl)
    have Er:VR m (.slice (some ga) gl gc) z0:=rh.2 0 (by simp) (by simp)
    have tG:VR m (.slice (some ⟨sb,so,none⟩) n sc) z1:=rh.2 1 (by simp) (by simp)
    have AI:VR m (.int .i64 ms) z2:=rh.2 2 (by simp) (by simp)
    cases AI
    cases Er with
    |dO=>omega
    | @slice _ TZ _ _ Bh=>
      cases tG with
      |dO=>omega
      | @slice _ q _ _ hq=>
        obtain⟨qb,qo,qs⟩:=q;obtain⟨uj,FP,_,T_⟩:=hq;dsimp only at uj FP T_
        subst FP T_;have aj:=(hw.lt uj).2;refine TU (a:=a) (gs:=gs) (ga:=TZ) (gl:=gl) (gc:=gc) (sb:=qb) (so:=qo) (sc:=sc) (ms:=ms) (N:=w.heap.size) (n:=n) (c:=c) (cs:=fs) hM.ph rfl n1 n5 aj (hM.sh _ _ uj) (fun i hi=>?_) ?_ fun γ1 w1 hA1=>?_
        ·obtain⟨y,hy1,hy2⟩:=(hw.cell (a:=⟨sb,qo+i,none⟩) (b:=⟨qb,qo+i,none⟩) ⟨uj,rfl,rfl,rfl⟩).1 _ (aY i hi)
         cases hy2;exact hy1
        ·exact T0 B Bg T3 Iv rfl hw rfl Bh hM.sh rfl rfl rfl n5 rfl (fun _ _=>rfl) T9
        ·
         obtain⟨ph1,so1,sz1,Yk,ZL,cs2,abh,abi,abj⟩:=hA1;have hBn:m Bk=none:=hw.TY hBk
         have Qz:aD.le m (m.put Bk (w.heap.size+3)):=En hBn
         have Ca:∀r t,m r=some t→r<v.heap.size∧t<w.heap.size:=fun r t h=>hw.lt h
         refine ih _ _ _ ZK hF5.1 (m:=m.put Bk (w.heap.size+3)) rfl rfl (.inl (hc.finish yw Qz (.slice n n ⟨xV,rfl,rfl,rfl⟩))) (abe.mono Qz) ?_ ?_
         ·refine⟨fun r s t hr hs=>?_,fun r t hr=>?_,(so1.2.1.trans hw.os).trans hos.symm,rfl,rfl⟩
          ·rcases jo hr with⟨h1,h2⟩|h1<;>rcases jo hs with⟨h3,h4⟩|h3
           ·omega
           ·exact absurd (Ca _ _ h3).2 (by omega)
           ·exact absurd (Ca _ _ h1).2 (by omega)
           ·exact hw.inj r s t h1 h3
          ·rcases jo hr with⟨rfl,rfl⟩|h1
           ·refine⟨_,_,mA,abh,.cells (Fz.refl _) ⟨eJ.trans abi.symm,fun i h1 h2=>?_⟩⟩
            have hi:i<5*n:=by omega
            have e1:=hc3 (i / 5) (i % 5) (by omega) (by omega)
            have e2:=abj (i / 5) (i % 5) (by omega) (by omega)
            rw[show 5*(i / 5)+i % 5=i from by omega]at e1 e2
            rw[Array.getElem?_eq_getElem h1]at e1;rw[Array.getElem?_eq_getElem h2]at e2;rw[Option.some.inj e1,Option.some.inj e2];have h5:i % 5<5:=by omega
            generalize i % 5=c at h5;obtain rfl|rfl|rfl|rfl|rfl:c=0∨c=1∨c=2∨c=3∨c=4:=by omega
            ·exact .int _ _
            ·exact .int _ _
            ·exact .int _ _
            ·exact .bool _
            ·exact .bool _
           ·obtain⟨o,p,h2,h3,h4⟩:=hw.iX r t h1
            have lL:v.heap[r]?=some o:=h2
            refine⟨o,p,?_,?_,h4.mono Qz⟩
            ·show v1.heap[r]?=some o
             rw[←lL];exact hold r (Ca _ _ h1).1
            ·rw[Yk t (Ca _ _ h1).2 (hM.sh _ _ h1)]
             exact h3
         ·refine⟨ph1,fun r t hr hs=>?_,fun b hb=>?_,fun t ht=>?_,fun r t hr ht=>?_,hM.same.trans so1,by have:=hM.size;omega,fun b hb=>?_⟩
          ·rcases(ZL t).1 hs with h1|h1
           ·rcases jo hr with⟨_,h2⟩|h2
            ·have:=hM.cX _ h1
             omega
            ·exact hM.sh _ _ h2 h1
           ·rcases jo hr with⟨_,h2⟩|h2
            ·omega
            ·have:=(Ca _ _ h2).2;omega
          ·rcases(ZL b).1 hb with h1|h1
           ·exact hM.QB b h1
           ·have:=hM.size;omega
          ·rw[Yk t (by have:=hM.size;omega) (fun hs=>by have:=hM.QB t hs;omega)]
           exact hM.old t ht
          ·rcases jo hr with⟨_,h2⟩|h2
           ·have:=hM.size;omega
           ·exact(hM.jb r t h2 ht).same (hold r (Ca _ _ h2).1)
          ·rcases(ZL b).1 hb with h1|h1
           ·have:=hM.cX b h1;omega
           ·omega
end
end Go.Proofs.YtlhohdjniaebbaaGreat.Sr
namespace Go.Proofs.YtlhohdjniaebbaaGreat.Sr
open Go Go.Conc Go.ConcN Go.RowKit
def W5:Gh:={ow:=fun _ _=>False,ro:=fun _ _=>False,sh:=fun _=>False,st:=fun _=> .off,wm:= .op,ph:=none,extra:=0,j:=0}
theorem jj0 (W:World):JJ W5 W #[] 0:=by
 refine⟨TJ.init _ _,⟨fun _ _ _ h=>h.elim,fun _ _ _ h=>h.elim,fun _ _ h=>h.elim,fun _ _ h=>h.elim,fun p hp=>(by cases hp)⟩,rfl,fun _ _ h=>h.elim,fun _ _ h=>h.elim,fun _ h=>h.elim,fun _=>⟨fun _ _=>⟨fun h=>h,fun h=>h⟩,fun _=>rfl,rfl⟩,fun p hp=>(by cases hp),fun p hp=>(by cases hp)⟩
def Ua (us:Array Value)(h:Array Obj):Prop:=∃r x,us= #[.pointer (some ⟨r,0,none⟩),x]∧∀v:World,v.heap=h→v.cell? ⟨r,0,none⟩=some (.int .i32 0)∧v.frozen? ⟨r,0,none⟩=false
def ZM (e:Ending)(w:World):Prop:=(∃us,e= .panicked [{v:=kW us,recovered:=false}]∧zc us w.heap)∨∃us,e= .panicked [{v:=kX us,recovered:=false}]∧Ua us w.heap
def fF (e:Ending)(w:World):Prop:=e= .returned (.bool true)∨ZM e w
theorem QD {us vs:Array Value}(h:kW us=kW vs):us=vs:=by
 unfold kW at h;injection h with _ h
 injection h with _ h _
theorem bS (w:World):¬fF .outgrown w:=by
 rintro(h|⟨_,h,_⟩|⟨_,h,_⟩)<;>cases h
theorem jV {x y:Value}(h:Ending.panicked [{v:=x,recovered:=false}]= .panicked [{v:=y,recovered:=false}]):x=y:=by
 injection h with h
 injection h with h _
 injection h with h _
theorem Iw (x:Value)(w:World)(hp:Plain nO (.panic x)):¬fF (.panicked [{v:=x,recovered:=false}]) w:=by
 rintro(h|⟨us,h,_⟩|⟨us,h,_⟩)
 ·cases h
 ·exact hp _ (jV h)
 ·exact hp _ (jV h)
theorem QE (us:Array Value)(w:World)(h:fF (.panicked [{v:=kW us,recovered:=false}]) w):zc us w.heap:=by
 rcases h with h|⟨vs,h,hk⟩|⟨vs,h,_⟩
 ·cases h
 ·rw[QD (jV h)]
  exact hk
 ·exact absurd (jV h).symm Gb
theorem QF {us vs:Array Value}(h:kX us=kX vs):us=vs:=by
 unfold kX at h;injection h with _ h
 injection h with _ h _
theorem Mi (us:Array Value)(w:World)(h:fF (.panicked [{v:=kX us,recovered:=false}]) w):Ua us w.heap:=by
 rcases h with h|⟨vs,h,_⟩|⟨vs,h,hk⟩
 ·cases h
 ·exact absurd (jV h) Gb
 ·rw[QF (jV h)]
  exact hk
theorem QG {Q:Program}{fn:FuncId}{fr:Func}{t:Array Value}{todo:List Item}{w w1:World}{x:Value}{es:Array Event}(hf:Q.funcs[fn]?=some fr)(hi:Q.inits.idxOf? fn=none)(h:(results fr t).runT Q w #[]=(.ok x w1,es)):
  stepG Q true (G (aM fn t todo .returning) []) w= .ended (.done x) w1 (seen Q fn es):=by
 simp only[G,aM,stepG,unwind,hf,h,doReturn,hi,GStep.after,Array.append_empty,Bool.not_true,Bool.false_eq_true,if_false]
def Cb (W:World)(γ:Gh)(w:World)(t:Trace)(j:Nat)(o:Outcome)(w1:World):Prop:=
 o= .done (.bool true)∧γ.ph=none∧(∃B,TJ γ B t j)∧(∀k,Gh.Gone γ k)∧Below W.heap.size W w1
section
variable {spec oB good jU:FuncId→Bool}
theorem QH (B:fg nO Tryz.prog Tw.prog.funcs spec good)(Bg:mL spec)(T8:mL oB)(W2:∀N0 w0,T7 spec good fF N0 w0 (Cb w0))(T3:spec 187=false)(Iv:good 187=true)
  (BS:fg nO Tw.prog Tw.prog.funcs oB jU) (ZH:oB Tw.iy=false) (bW:∀f,good f=true→cA f=none→jU f=true) (ZI:jU Tw.iy=true) (gr:∀f,good f=true→Tryz.prog.inits.idxOf? f=none)
  {f:FuncId} {us vs:Array Value} {m:aD} {v W:World} (Mj:good f=true) (Mk:spec f=false) (T4:m.good=good) (rh:AR m us vs) (hw:WR m (v.on W.tape W.drawn) W) (kH:∀r t,m r=some t→dG v r)
  (Ix:∀T,Calls Tw.prog f us (v.on T 0) fF):
  ∃M last o w' t',runNT Tryz.prog (M+1) (solo (G (Frame.enter Tryz.prog f vs .normal) []) W) #[]=(.ended o w',t')∧runN Tryz.prog M (solo (G (Frame.enter Tryz.prog f vs .normal) []) W)= .next last∧step Tryz.prog last= .ended o w'∧
   Go.Conc.Good Tryz.prog (fun x W'=>x= .bool true∧Below W.heap.size W W') last o w' t':=by
 subst T4;have hE:Ends Tw.prog (aO Tw.prog fF) (Frame.enter Tw.prog f us .normal) [bz] v:=ends_of_calls bS Ix
 have hMI:MI W.heap.size m v W W5 W:=⟨rfl,fun _ _ _ h=>h,fun _ h=>h.elim,fun _ _=>rfl,fun r t hr _=>kH r t hr,⟨rfl,rfl,rfl⟩,Nat.le_refl _,fun _ h=>h.elim⟩
 have hMP:MP (sys Tryz.prog) (Cb W) false 0 W5 W (G (Frame.enter Tryz.prog f vs .normal) []):=by
  refine QC (R:=fF) (N0:=W.heap.size) (w0:=W) (Q:=Cb W) B Bg T8 T3 Iv BS ZH bW ZI bS Iw QE (W2 _ _) ?_ hE (fs':=[]) (fs:=[]) (m:=m) rfl rfl (.inl (FR.enter B Mj Mk rh)) .nil hw hMI;intro γ w t j n f' f0 v1 hJ hd hM vK aG hf hl hE1;have B1:fg nO Tryz.prog Tw.prog.funcs spec n.good:=vK▸B
  obtain⟨x,T',d',r1,r2⟩:=vB B1 bS hE1 hf aG hl;have hx:x= .bool true:=by
   rcases r1 with h|⟨_,h,_⟩|⟨_,h,_⟩
   ·injection h
   ·cases h
   ·cases h
  subst hx;obtain @⟨fn,tm',tm,todo,mode,tl,ds,dR,ha,ok,hm,rfl,rfl⟩:=hf
  ·obtain rfl:mode= .returning:=hl
   obtain⟨rfl,rfl,fc,bf⟩:=dR.back;obtain⟨fr,e1,e2,e3⟩:=B1.same fn bf fc;have jD:=iN (F:=Tw.prog.funcs) (m:=n) B.rt fr ha;obtain⟨_,_,_,cM,q1,q2⟩:=r2;have y5:Tw.prog.funcs[fn]?=some cM:=q1
   rw[e1]at y5;obtain rfl:=Option.some.inj y5
   have S5:WR n (v1.on T' d') (w.on T' d'):=⟨aG.inj,aG.iX,aG.os,rfl,rfl⟩
   obtain⟨C3,hr⟩:=p9 (jD.sf S5) q2 w.tape w.drawn;obtain⟨n2,y,w2,us1,jC,g1,g2,g3,g4,g5,g6⟩:=jD.run (fs:= #[]) aG hr;obtain⟨KB,u1,u2,u3⟩:=jD.writes aG hr;have sw:us1=KB:=by
    have:=g2.symm.trans u1
    simpa using this
   subst sw;have FA:om n2 (v1.on w.tape w.drawn) (seen Tryz.prog fn (#[]++jC.toArray)):=om.of g3 u2
   obtain⟨s1,s2⟩:=B_ (fn:=fn) (pos:=(aM fn tm todo .returning).place) hM hJ g6 g5 FA;have Ml:=hM.step hJ g6
   cases g4;refine⟨_,_,_,QG e2 (gr fn (vK▸bf)) g1,rfl,Ml.ph,⟨_,s1.tj⟩,fun k=>?_,⟨Ml.same.2.1,Ml.same.1,Ml.same.2.2,Ml.size,fun b hb=>Ml.old b hb⟩⟩
   obtain⟨_,x2,x3⟩:=s1.none Ml.ph;exact⟨x2 k,by rw[x3];exact nofun,by rw[x3];exact nofun⟩
 obtain⟨ρ,dk⟩:=hMP.Dd;have abk:yJ (sys Tryz.prog) (Cb W) (crowd #[G (Frame.enter Tryz.prog f vs .normal) []] W none) #[]:=
  St.runs (S:=sys Tryz.prog) (Q:=Cb W) (Tr.acc ρ) 0 (fun _=> .nat 0) true _ _ _ _ W5 false _ ⟨rfl,jj0 W,dk,rfl,fun h=>(by cases h),fun k k1 k2=>absurd k2 (by omega)⟩
 obtain⟨M,bM,w',AK,t',ah,w2,j',o,w1,ops,h1,h2,⟨q1,q2,⟨Bq,q3⟩,q4,q5⟩,h4,h5,h6⟩:=abk;have ji:runNT Tryz.prog M (solo (G (Frame.enter Tryz.prog f vs .normal) []) W) #[]=(.next (crowd bM w' AK),t'):=h1
 refine⟨M,crowd bM w' AK,o,w1,t'++ops,?_,?_,?_,.bool true,q1,⟨rfl,q5⟩,q3.ct.nr,fun i g hg hn hc=>?_,⟨fun g hg=>?_,rfl⟩,fun i g hi hn=>?_⟩
 ·rw[runNT_add,ji]
  simp only[runNT,h2]
 ·rw[←runNT_fst _ _ _ #[],ji]
 ·show(stepT Tryz.prog _).1=_
  rw[h2]
 ·rcases q3.over i g hg hn hc with h|⟨p,hp,_⟩
  ·exact h
  ·rw[q2]at hp;cases hp
 ·obtain⟨i,hi,rfl⟩:=List.getElem_of_mem hg
  have dQ:i+1<bM.size:=by simp[crowd]at hi;omega
  obtain⟨x,ZN,Px⟩:=h6 (i+1) (by omega) (by omega)
  obtain⟨n,hn⟩:=Px (q4 _);have:((crowd bM w' AK).gs.toList.drop 1)[i]=x:=by
   have e:bM[i+1]?=some x:=ZN
   rw[Array.getElem?_eq_getElem dQ]at e;simp only[List.getElem_drop,crowd];have e2:=Option.some.inj e;simp only[Array.getElem_toList,Nat.add_comm 1 i];exact e2
  rw[this];exact⟨n,hn.leaves⟩
 ·have dQ:i<bM.size:=(Array.getElem?_eq_some_iff.1 hi).1
  obtain⟨x,ZN,Px⟩:=h6 i (by omega) (by omega)
  obtain⟨n,eK⟩:=Px (q4 _);have W6:bM[i]?=some g:=hi
  rw[ZN]at W6;obtain rfl:=Option.some.inj W6
  exact⟨n,eK.hears _⟩
end
end Go.Proofs.YtlhohdjniaebbaaGreat.Sr
namespace Go.Proofs.YtlhohdjniaebbaaGreat.Sr
open Go Go.Conc Go.RowKit
theorem uk:∀y:Value,∃x,(∀m:aD,VR m x y)∧∀k z,y= .int k z→x=y
 | .agg cs=>by
   have h:∀i (hi:i<cs.size),∃x,∀m:aD,VR m x cs[i]:=fun i hi=>(uk cs[i]).imp fun _ h=>h.1
   let us:Array Value:=Array.ofFn fun i:Fin cs.size=>(h i.1 i.2).choose
   refine⟨.agg us,fun m=> .agg (by simp[us]) fun i h1 h2=>?_,fun k z e=>by cases e⟩
   simp only[us,Array.getElem_ofFn];exact(h i h2).choose_spec m
 | .tuple cs=>by
   have h:∀i (hi:i<cs.size),∃x,∀m:aD,VR m x cs[i]:=fun i hi=>(uk cs[i]).imp fun _ h=>h.1
   let us:Array Value:=Array.ofFn fun i:Fin cs.size=>(h i.1 i.2).choose
   refine⟨.tuple us,fun m=> .tuple (by simp[us]) fun i h1 h2=>?_,fun k z e=>by cases e⟩
   simp only[us,Array.getElem_ofFn];exact(h i h2).choose_spec m
 | .int k z=>⟨.int k z,fun _=> .int k z,fun _ _ _=>rfl⟩
 | .bool b=>⟨.bool b,fun _=> .bool b,fun _ _ e=>by cases e⟩
 | .nilIface=>⟨.nilIface,fun _=> .nilIface,fun _ _ e=>by cases e⟩
 | .float a b=>⟨.nilFunc,fun _=> .fS _ (fun _=>⟨fun e=>(by cases e),fun e=>(by cases e)⟩) ⟨fun e=>(by cases e),fun _ e=>(by cases e)⟩,fun _ _ e=>by cases e⟩
 | .complex a b c=>⟨.nilFunc,fun _=> .fS _ (fun _=>⟨fun e=>(by cases e),fun e=>(by cases e)⟩) ⟨fun e=>(by cases e),fun _ e=>(by cases e)⟩,fun _ _ e=>by cases e⟩
 | .string s=>⟨.nilFunc,fun _=> .fS _ (fun _=>⟨fun e=>(by cases e),fun e=>(by cases e)⟩) ⟨fun e=>(by cases e),fun _ e=>(by cases e)⟩,fun _ _ e=>by cases e⟩
 | .pointer a=>⟨.nilFunc,fun _=> .fS _ (fun _=>⟨fun e=>(by cases e),fun e=>(by cases e)⟩) ⟨fun e=>(by cases e),fun _ e=>(by cases e)⟩,fun _ _ e=>by cases e⟩
 | .slice a l c=>⟨.nilFunc,fun _=> .fS _ (fun _=>⟨fun e=>(by cases e),fun e=>(by cases e)⟩) ⟨fun e=>(by cases e),fun _ e=>(by cases e)⟩,fun _ _ e=>by cases e⟩
 | .map r=>⟨.nilFunc,fun _=> .fS _ (fun _=>⟨fun e=>(by cases e),fun e=>(by cases e)⟩) ⟨fun e=>(by cases e),fun _ e=>(by cases e)⟩,fun _ _ e=>by cases e⟩
 | .chan r=>⟨.nilFunc,fun _=> .fS _ (fun _=>⟨fun e=>(by cases e),fun e=>(by cases e)⟩) ⟨fun e=>(by cases e),fun _ e=>(by cases e)⟩,fun _ _ e=>by cases e⟩
 | .func f a b=>⟨.nilFunc,fun _=> .fS _ (fun _=>⟨fun e=>(by cases e),fun e=>(by cases e)⟩) ⟨fun e=>(by cases e),fun _ e=>(by cases e)⟩,fun _ _ e=>by cases e⟩
 | .nilFunc=>⟨.nilFunc,fun _=> .nilFunc,fun _ _ e=>by cases e⟩
 | .iface t v=>⟨.nilFunc,fun _=> .fS _ (fun _=>⟨fun e=>(by cases e),fun e=>(by cases e)⟩) ⟨fun e=>(by cases e),fun _ e=>(by cases e)⟩,fun _ _ e=>by cases e⟩
termination_by y=>SizeOf.sizeOf y
decreasing_by
 all_goals
  have:=Array.sizeOf_getElem cs i hi
  simp
  omega
noncomputable def Ub (y:Value):Value:=(uk y).choose
theorem QI (m:aD)(y:Value):VR m (Ub y) y:=(uk y).choose_spec.1 m
end Go.Proofs.YtlhohdjniaebbaaGreat.Sr
namespace Go.Proofs.YtlhohdjniaebbaaGreat.Sr
open Go Go.Conc
def W7 (P:Program)(r:Nat)(c:Frame)(cs:List Frame):Goroutine:={frame:=Frame.enter P 129 #[.pointer (some ⟨r,0,none⟩)] .normal,callers:=c::cs,status:= .running,dying:=none}
def lk1 (P:Program)(r:Nat)(c:Frame)(cs:List Frame):Goroutine:=aL P 7 (W7 P r c cs)
def ZO (P:Program)(r:Nat)(c:Frame)(cs:List Frame):Goroutine:=cR P (lk1 P r c cs)
def lk3 (P:Program)(r:Nat)(c:Frame)(cs:List Frame):Goroutine:=aL P 7 (ZO P r c cs)
def ZP (P:Program)(r:Nat)(c:Frame)(cs:List Frame):Goroutine:=aZ (lk3 P r c cs) (.bool true)
def lk5 (P:Program)(r:Nat)(c:Frame)(cs:List Frame):Goroutine:=aL P 6 (ZP P r c cs)
def ZQ (P:Program)(r:Nat)(c:Frame)(cs:List Frame):Goroutine:=cR P (lk5 P r c cs)
def lk7 (P:Program)(r:Nat)(c:Frame)(cs:List Frame):Goroutine:=aL P 3 (ZQ P r c cs)
def ZR (P:Program)(r:Nat)(c:Frame)(cs:List Frame):Goroutine:=aZ (lk7 P r c cs) (.pointer (some ⟨r,0,none⟩))
def ZS (P:Program)(r:Nat)(c:Frame)(cs:List Frame):Goroutine:=cR P (ZR P r c cs)
def W8 (P:Program)(r:Nat)(k:CallKind)(c:Frame)(cs:List Frame):Goroutine:={frame:=Frame.enter P 130 #[.pointer (some ⟨r,0,none⟩)] k,callers:=c::cs,status:= .running,dying:=none}
def uk1 (P:Program)(r:Nat)(k:CallKind)(c:Frame)(cs:List Frame):Goroutine:=aL P 12 (W8 P r k c cs)
def ZT (P:Program)(r:Nat)(k:CallKind)(c:Frame)(cs:List Frame):Goroutine:=aZ (uk1 P r k c cs) (.int .i32 1)
def uk3 (P:Program)(r:Nat)(k:CallKind)(c:Frame)(cs:List Frame):Goroutine:=aL P 4 (ZT P r k c cs)
def ZU (P:Program)(r:Nat)(k:CallKind)(c:Frame)(cs:List Frame):Goroutine:=aZ (uk3 P r k c cs) (.pointer (some ⟨r,0,none⟩))
def ZV (P:Program)(r:Nat)(k:CallKind)(c:Frame)(cs:List Frame):Goroutine:=cR P (ZU P r k c cs)
def uk6 (P:Program)(r:Nat)(k:CallKind)(c:Frame)(cs:List Frame):Goroutine:=aL P 2 (ZV P r k c cs)
def ZW (P:Program)(r:Nat)(k:CallKind)(c:Frame)(cs:List Frame):Goroutine:=cR P (uk6 P r k c cs)
def uk8 (P:Program)(r:Nat)(k:CallKind)(c:Frame)(cs:List Frame):Goroutine:=aL P 6 (ZW P r k c cs)
def ZX (P:Program)(r:Nat)(k:CallKind)(c:Frame)(cs:List Frame):Goroutine:=aZ (uk8 P r k c cs) (.int .i32 0)
def Yl (P:Program)(r:Nat)(k:CallKind)(c:Frame)(cs:List Frame):Goroutine:=aL P 11 (ZX P r k c cs)
def Uc (P:Program)(r:Nat)(k:CallKind)(c:Frame)(cs:List Frame):Goroutine:=cR P (Yl P r k c cs)
theorem Iy {P:Program}{g:Goroutine}{s:Sem Next}(h:cm P g=some s)(b:Bool){w w1:World}{es:Array Event}(hr:s.runT P w #[]=(.ok .skip w1,es)):stepG P b g w= .go (aZ g undef) w1 (seen P g.frame.fn es):=by
 obtain⟨_,_,hk,e⟩:=ri h b w;have vC:(g.frame.kind==CallKind.early)=false:=by simpa using hk
 rw[e];simp only[stepG.apply,hr,vC,if_true,Bool.false_eq_true,if_false,GStep.after,Array.append_empty,aZ]
section
variable(r:Nat)(c:Frame)(cs:List Frame)(e:TypeId)(n:Nat)
set_option maxRecDepth 100000
theorem QJ:mute Tryz.prog 7 (W7 Tryz.prog r c cs)=true:=by kernel_rfl
theorem Ud:bU Tryz.prog (lk1 Tryz.prog r c cs)=some (ZO Tryz.prog r c cs,#[⟨.mark .disable,false,true⟩]):=by kernel_rfl
theorem QK:mute Tryz.prog 7 (ZO Tryz.prog r c cs)=true:=by kernel_rfl
theorem Ue:bn Tryz.prog (.int .i32 0) (some (e,n)) (lk3 Tryz.prog r c cs)=some ⟨ZP Tryz.prog r c cs,#[⟨.cell ⟨r,0,none⟩,false,true⟩,⟨.cell ⟨r,0,none⟩,true,true⟩],[⟨r,0,none⟩,⟨r,0,none⟩,⟨r,0,none⟩],[r],some (⟨r,0,none⟩,.int .i32 1)⟩:=by kernel_rfl
theorem QL:mute Tryz.prog 6 (ZP Tryz.prog r c cs)=true:=by kernel_rfl
theorem W9:bU Tryz.prog (lk5 Tryz.prog r c cs)=some (ZQ Tryz.prog r c cs,#[⟨.mark .enable,false,true⟩]):=by kernel_rfl
theorem QM:mute Tryz.prog 3 (ZQ Tryz.prog r c cs)=true:=by kernel_rfl
theorem QN:bn Tryz.prog undef (some (e,n+1)) (lk7 Tryz.prog r c cs)=some ⟨ZR Tryz.prog r c cs,#[],[],[r,r],none⟩:=by kernel_rfl
theorem Uf:∃es,bU Tryz.prog (ZR Tryz.prog r c cs)=some (ZS Tryz.prog r c cs,es)∧es= #[⟨.mark (.acquire ⟨r,0,none⟩),false,true⟩]:=⟨_,by kernel_rfl,rfl⟩
theorem QO:mute Tryz.prog 6 (ZS Tryz.prog r c cs)=true:=by kernel_rfl
theorem Ug:aL Tryz.prog 6 (ZS Tryz.prog r c cs)=iY c cs:=by kernel_rfl
theorem QP:mute Tryz.prog 12 (W8 Tryz.prog r .deferred c cs)=true:=by kernel_rfl
theorem W_:bn Tryz.prog (.int .i32 1) none (uk1 Tryz.prog r .deferred c cs)=some ⟨ZT Tryz.prog r .deferred c cs,#[],[⟨r,0,none⟩],[],none⟩:=by kernel_rfl
theorem QQ:mute Tryz.prog 4 (ZT Tryz.prog r .deferred c cs)=true:=by kernel_rfl
theorem QR:bn Tryz.prog undef (some (e,n+1)) (uk3 Tryz.prog r .deferred c cs)=some ⟨ZU Tryz.prog r .deferred c cs,#[],[],[r,r],none⟩:=by kernel_rfl
theorem Uh:bU Tryz.prog (ZU Tryz.prog r .deferred c cs)=some (ZV Tryz.prog r .deferred c cs,#[⟨.mark (.releaseMerge ⟨r,0,none⟩),false,true⟩]):=by kernel_rfl
theorem QS:mute Tryz.prog 2 (ZV Tryz.prog r .deferred c cs)=true:=by kernel_rfl
theorem Ui:bU Tryz.prog (uk6 Tryz.prog r .deferred c cs)=some (ZW Tryz.prog r .deferred c cs,#[⟨.mark .disable,false,true⟩]):=by kernel_rfl
theorem QT:mute Tryz.prog 6 (ZW Tryz.prog r .deferred c cs)=true:=by kernel_rfl
theorem Uj:bn Tryz.prog (.int .i32 1) none (uk8 Tryz.prog r .deferred c cs)=some ⟨ZX Tryz.prog r .deferred c cs,#[⟨.cell ⟨r,0,none⟩,false,true⟩,⟨.cell ⟨r,0,none⟩,true,true⟩],[⟨r,0,none⟩,⟨r,0,none⟩],[],some (⟨r,0,none⟩,.int .i32 0)⟩:=by kernel_rfl
theorem QU:mute Tryz.prog 11 (ZX Tryz.prog r .deferred c cs)=true:=by kernel_rfl
theorem Uk:bU Tryz.prog (Yl Tryz.prog r .deferred c cs)=some (Uc Tryz.prog r .deferred c cs,#[⟨.mark .enable,false,true⟩]):=by kernel_rfl
def Xa (c:Frame)(cs:List Frame):Goroutine:={frame:=c,callers:=cs,status:= .running,dying:=none}
theorem Mm:mute Tryz.prog 6 (Uc Tryz.prog r .deferred {c with mode:= .returning} cs)=true:=by kernel_rfl
theorem QV:aL Tryz.prog 6 (Uc Tryz.prog r .deferred {c with mode:= .returning} cs)=Xa {c with mode:= .returning} cs:=by kernel_rfl
theorem QW (tm:Array Value):mute Tryz.prog 2 {frame:={fn:=bp,tmps:=tm,todo:=[],defers:=[tI r],mode:= .run,kind:= .normal},callers:=cs,status:= .running,dying:=none}=true:=by kernel_rfl
theorem Iz (tm:Array Value):aL Tryz.prog 2 {frame:={fn:=bp,tmps:=tm,todo:=[],defers:=[tI r],mode:= .run,kind:= .normal},callers:=cs,status:= .running,dying:=none}=W8 Tryz.prog r .deferred {fn:=bp,tmps:=tm,todo:=[],defers:=[],mode:= .returning,kind:= .normal} cs:=by kernel_rfl
end
noncomputable def aq0 (a b:Value) (cs:List Frame):Goroutine:={frame:=Frame.enter Tryz.prog bp #[a,b] .normal,callers:=cs,status:= .running,dying:=none}
noncomputable def ZY (a b:Value) (cs:List Frame):Goroutine:=aL Tryz.prog 2 (aq0 a b cs)
noncomputable def Xb (r:Nat) (b x:Value) (cs:List Frame):Goroutine:=aZ (ZY (.pointer (some ⟨r,0,none⟩)) b cs) x
noncomputable def ZZ (r:Nat) (b x:Value):Frame:=match(aL Tryz.prog 7 (Xb r b x [])).callers with
 |c::_=>c
 |[]=>default
noncomputable def aq4 (r:Nat) (b x:Value) (cs:List Frame):Goroutine:=aL Tryz.prog 8 (iY (ZZ r b x) cs)
section
variable(r:Nat)(a b x:Value)(cs:List Frame)
set_option maxRecDepth 100000
theorem QX:mute Tryz.prog 2 (aq0 a b cs)=true:=by kernel_rfl
theorem QY:mute Tryz.prog 7 (Xb r b x cs)=true:=by kernel_rfl
theorem QZ:aL Tryz.prog 7 (Xb r b x cs)=W7 Tryz.prog r (ZZ r b x) cs:=by kernel_rfl
theorem Q0:mute Tryz.prog 8 (iY (ZZ r b x) cs)=true:=by kernel_rfl
noncomputable def nP (r:Nat) (b x:Value):Array Value:= #[.pointer (some ⟨r,0,none⟩),b,undef,x,.pointer (some ⟨r,0,none⟩),.pointer (some ⟨r,0,none⟩),.pointer (some ⟨r,0,none⟩),undef,.pointer (some ⟨r,0,none⟩),.pointer (some ⟨r,0,none⟩),.pointer (some ⟨r,0,none⟩)]++Array.replicate (Tryz.f77.ntmps-11) undef
theorem Xc:aq4 r b x cs={frame:={fn:=bp,tmps:=nP r b x,todo:=[.code Tw.AE],defers:=[tI r],mode:= .run,kind:= .normal},callers:=cs,status:= .running,dying:=none}:=by kernel_rfl
noncomputable def Ul (a b:Value) (cs:List Frame):Goroutine:=aL Tw.prog 8 (K3 a b cs 0)
noncomputable def Z0 (r:Nat) (b x:Value) (cs:List Frame):Goroutine:=aZ (Ul (.pointer (some ⟨r,0,none⟩)) b cs) x
noncomputable def Um (r:Nat) (b x:Value) (cs:List Frame):Goroutine:=aL Tw.prog 6 (Z0 r b x cs)
noncomputable def Z1 (r:Nat) (b x:Value) (cs:List Frame):Goroutine:=aZ (Um r b x cs) undef
noncomputable def Ym (a b:Value) (cs:List Frame):Sem Next:=(cm Tw.prog (Ul a b cs)).getD (.pure .skip)
noncomputable def Yn (r:Nat) (b x:Value) (cs:List Frame):Sem Next:=(cm Tw.prog (Um r b x cs)).getD (.pure .skip)
theorem Un:cm Tw.prog (Ul a b cs)=some (Ym a b cs):=by kernel_rfl
theorem Uo (n:Nat):ug Tw.prog n (Ym a b cs) #[]=some (.value (.pointer (some ⟨n,0,none⟩)),#[],.cells b.cells 54):=by kernel_rfl
theorem Up (n:Nat):cT Tryz.prog n (ZY a b cs)=some (aZ (ZY a b cs) (.pointer (some ⟨n,0,none⟩)),#[],.cells b.cells 54):=by kernel_rfl
theorem Uq:cm Tw.prog (Um r b x cs)=some (Yn r b x cs):=by kernel_rfl
theorem Ur:eG Tw.prog (.int .i32 0) none (Yn r b x cs) #[]=some ⟨.skip,#[⟨.cell ⟨r,0,none⟩,true,false⟩],[⟨r,0,none⟩],[],some (⟨r,0,none⟩,.int .i32 1)⟩:=by kernel_rfl
theorem Mn:fy Tw.prog 8 (K3 a b cs 0)=true:=by kernel_rfl
theorem Mo:fy Tw.prog 6 (Z0 r b x cs)=true:=by kernel_rfl
theorem Mp:fy Tw.prog 8 (Z1 r b x cs)=true:=by kernel_rfl
theorem Us:aL Tw.prog 8 (Z1 r b x cs)=G (aM bp (nP r b x) [.code Tw.AE,.code yq] .run) cs:=by kernel_rfl
end
end Go.Proofs.YtlhohdjniaebbaaGreat.Sr
namespace Go.Proofs.YtlhohdjniaebbaaGreat.Sr
open Go Go.Conc Go.ConcN
theorem zd {P:Program}{α:Type}{s:Sem α}:∀{es:Array Event} {y:α×Array Event},kU P s es=some y→∀w:World,SF P s w:=by
 induction s with
 |pure a=>intro es y h w;trivial
 |program k ih=>intro es y h w;exact ih P h w
 |mark m k ih=>intro es y h w;exact ih h w
 |_=>intro es y h;cases h
theorem Ut {P:Program}{v:Value}{sh:Option (TypeId×Nat)}{α:Type}{s:Sem α}:∀{es:Array Event} {y:KE α},eG P v sh s es=some y→∀w:World,(∀a∈y.ls,w.cell? a=some v∧w.frozen? a=false)→(∀r∈y.rs,w.shape? r=sh)→SF P s w:=by
 induction s with
 |pure a=>intro es y h w _ _;trivial
 |program k ih=>intro es y h w;exact ih P h w
 |mark m k ih=>intro es y h w;exact ih h w
 |load md a k ih=>
  intro es y h w hl hr;simp only[eG]at h
  cases hy:eG P v sh (k v) (es.push ⟨.cell a,false,md== .atomic⟩)with
  |none=>rw[hy]at h;cases h
  |some y'=>
   rw[hy]at h
   cases h;have:=ih v hy w (fun b hb=>hl b (List.mem_cons_of_mem _ hb)) hr
   simp only[SF,(hl a (List.mem_cons_self ..)).1];exact this
 |shape r k ih=>
  intro es y h w hl hr;simp only[eG]at h
  cases hy:eG P v sh (k sh) es with
  |none=>rw[hy]at h;cases h
  |some y'=>
   rw[hy]at h
   cases h;have:=ih sh hy w hl (fun b hb=>hr b (List.mem_cons_of_mem _ hb))
   simp only[SF,hr r (List.mem_cons_self ..)];exact this
 |frozen a k ih=>
  intro es y h w hl hr;simp only[eG]at h
  cases hy:eG P v sh (k false) es with
  |none=>rw[hy]at h;cases h
  |some y'=>
   rw[hy]at h
   cases h;have:=ih false hy w (fun b hb=>hl b (List.mem_cons_of_mem _ hb)) hr
   simp only[SF,(hl a (List.mem_cons_self ..)).2];exact this
 |store md a x k ih=>
  intro es y h w hl hr
  cases x with
  |int i n=>
   simp only[eG]at h
   cases hy:kU P k (es.push ⟨.cell a,true,md== .atomic⟩)with
   |none=>rw[hy]at h;cases h
   |some q=>
    rw[hy]at h
    cases h;obtain⟨h1,h2⟩:=hl a (List.mem_cons_self ..);simp only[SF,h1];exact .inr (.inr (zd hy _))
  |_=>simp[eG]at h
 |_=>intro es y h;cases h
theorem Uu {P:Program}{r:Nat}{α:Type}{s:Sem α}:∀{es aQ:Array Event} {a:α} {o:Obj},ug P r s es=some (a,aQ,o)→∀w:World,w.heap.size=r→SF P s w:=by
 induction s with
 |program k ih=>intro es aQ a o h w hr;exact ih P h w hr
 |mark m k ih=>intro es aQ a o h w hr;exact ih h w hr
 |new o' k ih=>
  intro es aQ a o h w hr;simp only[ug]at h
  cases hy:kU P (k r) es with
  |none=>rw[hy]at h;cases h
  |some y=>
   simp only[SF,hr];exact zd hy _
 |_=>intro es aQ a o h;cases h
theorem um {Q:Program}{g:Goroutine}{s:Sem Next}(h:cm Q g=some s)(hd:g.frame.defers=[])(hk:g.frame.kind= .normal){v:World}(hs:SF Q s v)(hr:KD (s.runT Q v #[]).1)(cs:List Frame):eP Q g.frame cs v:=by
 unfold cm at h;split at h
 ·split at h
  ·cases h
  ·split at h
   ·rename_i o ho
    split at h
    ·rename_i hw
     cases h;dsimp only at hd hk
     subst hd hk;rw[show∀(ops:Array Oper) (i:Nat) (rest:List Nat) (k:List Item) (fn:FuncId) (tmps:Array Value),(Frame.eval {mode:= .run,todo:= .inRegion ops (i::rest)::k,roundOf:=none,kind:= .normal,fn:=fn,tmps:=tmps,defers:=[]})=Act.eval ⟨tmps,[]⟩from fun _ _ _ _ _ _=>funext fun c=>by cases c<;>rfl]at hs hr
     exact .op ho hw hs hr
    ·cases h
   ·cases h
 ·cases h
section
variable {Q:Program}{R:Ending→World→Prop}{g:Goroutine}{s:Sem Next}{u:World}
def uo (g:Goroutine):Bool:=B4 g&&(match g.frame with|{mode:= .run,kind:= .normal,defers:=[], .. }=>true|_=>false)
theorem qe (h:uo g=true):B4 g=true∧g.frame.mode= .run∧g.frame.kind= .normal∧g.frame.defers=[]:=by
 unfold uo at h;simp only[Bool.and_eq_true]at h;obtain⟨h1,h2⟩:=h;split at h2
 ·rename_i e
  exact⟨h1,by rw[e],by rw[e],by rw[e]⟩
 ·cases h2
theorem Ends.Yo (hO:∀w,¬R .outgrown w){v z:Value}{sh:Option (TypeId×Nat)}{y:KE Next}(hg:uo g=true)(h:cm Q g=some s)(hv:eG Q v sh s #[]=some y)(hz:y.x= .value z∨(y.x= .skip∧z=undef))(hE:Ends Q (aO Q R) g.frame g.callers u)(T:Nat→Question→Nat)(d:Nat)
  (hl:∀a∈y.ls,u.cell? a=some v∧u.frozen? a=false) (hr:∀r∈y.rs,u.shape? r=sh):kM Q (aO Q R) (g.frame,g.callers,u) ((aZ g z).frame,(aZ g z).callers,dC (u.on T d) y.bb):=by
 obtain⟨g1,g2,g3,g4⟩:=qe hg;have dA:=wG hv (u.on T d) hl hr;have hgo:stepG Q true (G g.frame g.callers) (u.on T d)= .go (G (aZ g z).frame (aZ g z).callers) (dC (u.on T d) y.bb) (seen Q g.frame.fn y.es):=by
  rw[←nN g1];rcases hz with hz|⟨hz,rfl⟩
  ·rw[hz]at dA;exact gL h true dA
  ·rw[hz]at dA;exact Iy h true dA
 have ht:eP Q g.frame g.callers (u.on T d):=um (v:=u.on T d) h g4 g3 (Ut hv _ hl hr) (by rw[dA];rcases hz with hz|⟨hz, -⟩<;>rw[hz]<;>trivial) _
 obtain⟨h1,h2⟩:=hE.go (eU hO g2) ht hgo;exact⟨h1,.inr h2⟩
theorem Ends.news (hO:∀w,¬R .outgrown w){z:Value}{o:Obj}(hg:uo g=true)(h:cm Q g=some s)(hn:ug Q u.heap.size s #[]=some (.value z,#[],o))(hE:Ends Q (aO Q R) g.frame g.callers u)(T:Nat→Question→Nat)(d:Nat):
  kM Q (aO Q R) (g.frame,g.callers,u) ((aZ g z).frame,(aZ g z).callers,{u.on T d with heap:=u.heap.push o}):=by
 obtain⟨g1,g2,g3,g4⟩:=qe hg;have dA:=wL hn (u.on T d) rfl;have hgo:stepG Q true (G g.frame g.callers) (u.on T d)= .go (G (aZ g z).frame (aZ g z).callers) {u.on T d with heap:=u.heap.push o} (seen Q g.frame.fn #[]):=by
  rw[←nN g1];exact gL h true dA
 have ht:eP Q g.frame g.callers (u.on T d):=um (v:=u.on T d) h g4 g3 (Uu hn _ rfl) (by rw[dA];trivial) _
 obtain⟨h1,h2⟩:=hE.go (eU hO g2) ht hgo;exact⟨h1,.inr h2⟩
theorem Xd (hO:∀w,¬R .outgrown w){fn:FuncId}{tm:Array Value}{k:List Item}:∀{fr:Frame} {cs:List Frame} {v:World},Ends Q (aO Q R) fr cs v→fr≠aM fn tm (.inLoop .skip::k) .run∧fr≠aM fn tm (.code .skip:: .inLoop .skip::k) .run:=by
 intro fr cs v hE;refine Ends.ind (C:=fun fr _ _=>fr≠aM fn tm (.inLoop .skip::k) .run∧fr≠aM fn tm (.code .skip:: .inLoop .skip::k) .run) ?_ hE
 intro fr cs v hE ih;refine⟨fun e=>?_,fun e=>?_⟩<;>subst e
 ·have hs:∀w,stepG Q true (G (aM fn tm (.inLoop .skip::k) .run) cs) w= .go (G (aM fn tm (.code .skip:: .inLoop .skip::k) .run) cs) w #[]:=fun w=>stepG_inLoop (b:=aM fn #[] [] .run) (a:=⟨tm,[]⟩)
  obtain⟨h1,h2⟩:=hE.go (eU hO rfl) (T:=v.tape) (d:=v.drawn) (.bD hs) (hs _);exact(ih _ _ _ h2 h1).2 rfl
 ·have hs:∀w,stepG Q true (G (aM fn tm (.code .skip:: .inLoop .skip::k) .run) cs) w= .go (G (aM fn tm (.inLoop .skip::k) .run) cs) w #[]:=fun w=>stepG_skip (b:=aM fn #[] [] .run) (a:=⟨tm,[]⟩)
  obtain⟨h1,h2⟩:=hE.go (eU hO rfl) (T:=v.tape) (d:=v.drawn) (.bD hs) (hs _);exact(ih _ _ _ h2 h1).1 rfl
end
def NY (P:Program){α:Type}:Sem α→Bool
 | .halt (.stuck _)=>true
 | .halt (.unsupported u)=>match u with
   | .initOrder _=>false
   |_=>true
 | .program k=>NY P (k P)
 |_=>false
theorem IA {P:Program}{α:Type}{s:Sem α}:NY P s=true→∀w:World,SF P s w∧∃h0,s.runT P w #[]=(.halt h0 w,#[])∧((∃z,h0= .stuck z)∨∃u,h0= .unsupported u∧∀g,u≠.initOrder g):=by
 induction s with
 |halt h0=>
  intro h w;refine⟨trivial,h0,rfl,?_⟩
  cases h0 with
  |stuck z=>exact .inl ⟨z,rfl⟩
  |unsupported u=>
   refine .inr ⟨u,rfl,fun g e=>?_⟩
   subst e
   cases h
  |_=>cases h
 |program k ih=>intro h w;exact ih P h w
 |_=>intro h;cases h
theorem Ends.bad {Q:Program}{R:Ending→World→Prop}{g:Goroutine}{s:Sem Next}{u:World}(hO:∀w,¬R .outgrown w)(hg:uo g=true)(h:cm Q g=some s)(hb:NY Q s=true):¬Ends Q (aO Q R) g.frame g.callers u:=by
 intro hE;obtain⟨g1,g2,g3,g4⟩:=qe hg;obtain⟨hs,h0,hr,hh⟩:=IA hb (u.on u.tape u.drawn);have ht:eP Q g.frame g.callers (u.on u.tape u.drawn):=um h g4 g3 hs (by
  rw[hr];rcases hh with⟨z,rfl⟩|⟨x,rfl,hx⟩
  ·trivial
  ·exact hx) _
 cases hE with
 |stop hS=>exact eU hO g2 hS
 |step k1 _=>
  obtain⟨fe,bZ,v',es,hgo⟩:=k1 _ _ ht;obtain⟨_,_,_,e⟩:=ri h true (u.on u.tape u.drawn);rw[←nN g1,e]at hgo;obtain⟨o,w',aQ,hh'⟩:=fq (fr:=g.frame) (cs:=g.callers) hr hh;rw[hh']at hgo
  cases hgo
end Go.Proofs.YtlhohdjniaebbaaGreat.Sr
