/-
What is proved: the starter makes its way as a lone run of the second program does ('main_way'). Conditions: those that the theorem states. a law that a lone run of the second program shows to return true ends well at the machine ('law_runs'). Conditions: those that the theorem states. for slices that came in there is a memory for the lone run, alike where it looks and frozen there ('code_left'). Conditions: those that the theorem states. what is asked of the two programs ('twin_both', 'twin_self', 'twin_law'). No condition.
-/
import Derived.Test.YtjklkppncmhehaaGreatRx24
import Derived.Test.YtjklkppncmhehaaGreatRx11
import Derived.Below
import Derived.Conc.LeavingOf
import Derived.Test.YtjklkppncmhehaaGreatRx02
set_option linter.unusedVariables false
set_option linter.unusedSimpArgs false
namespace Go.Proofs.YtjklkppncmhehaaGreat.Sr
open Go Go.Conc Go.ConcN
def Ct (n:Nat)(a:Nat→eQ)(v:World)(e:Ending)(w1:World):Prop:=
 ∃B,e= .returned (.slice (some ⟨B,0,none⟩) n n)∧v.heap.size≤B∧(∃cs,w1.heap[B]?=some (.cells cs 107)∧cs.size=5*n∧∀i c,i<n→c<5→cs[5*i+c]?=some ((a i).cell c))∧
  (∀b,b<v.heap.size→w1.heap[b]?=v.heap[b]?)∧w1.os=v.os
def zH (us:Array Value)(h:Array Obj):Prop:=∃(ga:Addr) (gl gc sb so sc n:Nat) (ms:Int) (gs:Nat→Int) (a:Nat→eQ),us= #[.slice (some ga) gl gc,.slice (some ⟨sb,so,none⟩) n sc,.int .i64 ms]∧1≤n∧n≤5∧∀v:World,v.heap=h→
 (∀i,i<n→v.cell? ⟨sb,so+i,none⟩=some (.int .i64 (gs i)))∧
 (∀i,i<n→∀(u:World) (gb mb:Nat),(∀q:Addr,q.block<v.heap.size→u.cell? q=v.cell? q)→u.cell? ⟨gb,0,none⟩=some (.slice (some ga) gl gc)→u.cell? ⟨mb,0,none⟩=some (.int .i64 ms)→
    Calls Tw.prog 121 #[.int .i64 (gs i),ptr gb,ptr mb] u fun e _=>e= .returned (a i).val)∧
 Calls Tw.prog Tw.iV us v (Ct n a v)
def BH (m:az)(g:FuncId→Bool):az:=⟨fun r=>if(m r).isSome then some r else none,g⟩
section
variable {m:az}{g:FuncId→Bool}{v w:World}
theorem U7 {r t:Nat}(h:m r=some t):(BH m g) r=some r:=by
 show(if(m r).isSome then some r else none)=some r
 rw[h];rfl
theorem EJ {r t:Nat}(h:(BH m g) r=some t):r=t∧∃u,m r=some u:=by
 have h':(if(m r).isSome then some r else none)=some t:=h
 cases e:m r with
 |none=>rw[e]at h';cases h'
 |some u=>rw[e]at h';exact⟨Option.some.inj h',u,rfl⟩
theorem bp.left {a b:Addr}(h:bp m a b):bp (BH m g) a a:=⟨U7 h.1,rfl,h.2.2.1,h.2.2.1⟩
theorem VR.left (hg:∀f,m.good f=true→dj f=none→g f=true){x y:Value}(h:VR m x y):VR (BH m g) x x:=by
 induction h with
 |bool b=>exact .bool b
 |int k n=>exact .int k n
 |string s=>exact .string s
 |nilPtr=>exact .nilPtr
 |ptr h=>exact .ptr h.left
 |cn l c=>exact .cn l c
 |slice l c h=>exact .slice l c h.left
 |kD=>exact .kD
 |nilFunc=>exact .nilFunc
 |nilIface=>exact .nilIface
 |iface t ht _ ih=>exact .iface t ht ih
 |func f hf hs _ ht _ ih yJ=>
  refine .func f ?_ rfl (fun i h1 h2=>ih i h1 (hs▸h1)) rfl (fun i h1 h2=>yJ i h1 (ht▸h1))
  cases f with
  |func f=>exact⟨hg f hf.1 hf.2,hf.2⟩
  |_=>exact hf.elim
 |agg hs _ ih=>exact .agg rfl (fun i h1 h2=>ih i h1 (hs▸h1))
 |tuple hs _ ih=>exact .tuple rfl (fun i h1 h2=>ih i h1 (hs▸h1))
 |gF=>exact .nilFunc
theorem AR.left (hg:∀f,m.good f=true→dj f=none→g f=true){us vs:Array Value}(h:AR m us vs):AR (BH m g) us us:=⟨rfl,fun i h1 h2=>(h.2 i h1 (h.1▸h1)).left hg⟩
theorem WR.left (hg:∀f,m.good f=true→dj f=none→g f=true)(h:WR m v w):WR (BH m g) v v:=by
 refine⟨fun r s t hr hs=>(EJ hr).1.trans (EJ hs).1.symm,fun r t hr=>?_,rfl,rfl,rfl⟩
 obtain⟨rfl,u,hu⟩:=EJ hr;obtain⟨o,p,h1,h2,h3⟩:=h.kM r u hu;refine⟨o,o,h1,h1,?_⟩;rcases h3 with⟨us,vs,e,fz,gz,rfl,rfl,hf,ha⟩|⟨a,b,l,rfl,rfl,ha⟩
 ·exact .inl ⟨us,us,e,fz,fz,rfl,rfl,Fz.refl _,ha.left hg⟩
 ·exact .inr ⟨a,a,l,rfl,rfl,ha.left⟩
end
theorem Su {spec:FuncId→Bool}{m:az}(B:iC tF Tw.prog Tw.prog.funcs spec m.good)(zF:∀f,spec f=true→f=cU){Rf:Ending→World→Prop}(hO:∀w,¬Rf .outgrown w)(hP:∀c w,¬Rf (.panicked c) w){f' f:Frame}{fs' fs:List Frame}{v:World}
  (he:kE Tw.prog Tw.prog.funcs spec m f' f) (sg:lj Tw.prog spec m fs' fs) (bY:fs'≠[]):¬Ends Tw.prog (bE Tw.prog Rf) f' (fs'++[cJ]) v:=by
 intro hE;obtain⟨g,us,vs,e1,h1,h2,_,h3⟩:=pd he;have:=zF g e1
 subst this;subst h1;obtain⟨a,b,x,rfl⟩:=EI (h3 3 rfl);obtain⟨v',_,hR⟩:=qP (R:=Rf) hO (gs:=fs') rfl (uw B sg) hE;exact hP _ _ hR
structure MI (N0:Nat) (m:az) (v w0:World) (γ:Gh) (w:World):Prop where
 ph:γ.ph=none
 sh:∀r t,m r=some t→¬γ.sh t
 U8:∀b,γ.sh b→N0≤b
 old:∀t,t<N0→w.heap[t]?=w0.heap[t]?
 mj:∀r t,m r=some t→t<N0→dV v r
 same:bM w0 w
 size:N0≤w.heap.size
 dD:∀b,γ.sh b→b<w.heap.size
section
variable {N0:Nat}{m n:az}{w0 w w1:World}{γ:Gh}{v v1:World}
theorem MI.heap {w':World}(h:MI N0 m v w0 γ w)(e:w'.heap=w.heap)(s:bM w w'):MI N0 m v w0 γ w':=
 ⟨h.ph,h.sh,h.U8,fun t h1=>by rw[e];exact h.old t h1,h.mj,h.same.trans s,by rw[e];exact h.size,fun b hb=>by rw[e];exact h.dD b hb⟩
theorem MI.step {t:Trace}{j:Nat}{T:Nat→Question→Nat}{d:Nat}(h:MI N0 m v w0 γ w)(hJ:JJ γ w t j)(hK:Kept m n (v.on T d) w v1 w1):MI N0 n v1 w0 γ w1:=by
 have fr:∀r t,n r=some t→m r=some t∨w.heap.size≤t:=fun r t hr=>(hK.fresh r t hr).imp id fun x=>x.2
 refine⟨h.ph,fun r t hr hs=>?_,h.U8,fun t ht=>?_,fun r t hr ht=>?_,h.same.trans ⟨hK.tape,hK.os,hK.output⟩,Nat.le_trans h.size hK.jY,fun b hb=>Nat.lt_of_lt_of_le (h.dD b hb) hK.jY⟩
 ·rcases fr r t hr with h1|h1
  ·exact h.sh r t h1 hs
  ·have:=hJ.dD t hs;omega
 ·rw[hK.old t (Nat.lt_of_lt_of_le ht h.size) fun r hr=>h.mj r t hr ht]
  exact h.old t ht
 ·rcases fr r t hr with h1|h1
  ·exact(show dV (v.on T d) r from h.mj r t h1 ht).same (hK.mj r (h.mj r t h1 ht))
  ·have:=h.size;omega
end
section
variable {spec good kn:FuncId→Bool}{R:Ending→World→Prop}{N0:Nat}{w0:World}{Q:Gh→World→Trace→Nat→Outcome→World→Prop}
theorem Cu {m n:az}{γ:Gh}{v w v1 w1:World}{t:Trace}{j:Nat}{es:Array Event}{fn:FuncId}{pos:String}{v0:World}(hM:MI N0 m v0 w0 γ w)(hJ:JJ γ w t j)(hK:Kept m n v w v1 w1)(aD:WR n v1 w1)(he:oT n v es):
  JJ γ w1 (t++MemOp.ofEvents 0 fn pos es) j∧∀k',k'≠0→RR k' γ w γ w1:=by
 obtain⟨x1,x2,x3⟩:=hJ.none hM.ph;refine zo hJ ⟨hK.tape,hK.os,hK.output⟩ hK.jY (fun b hb hh=>?_) fun e KF=>?_
 ·refine hK.old b hb fun r hr=>?_
  rcases hh with⟨k,hk⟩|hk|⟨p,hp,_⟩
  ·exact hk.elim (fun hk=>absurd hk (x1 k b).1) (fun hk=>absurd hk (x1 k b).2)
  ·exact absurd hk (hM.sh r b hr)
  ·rw[hM.ph]at hp;cases hp
 ·obtain⟨e',h1,h2⟩:=he e KF
  obtain⟨f1,f2,f3,_⟩:=Bc.facts (B:=w1.heap.size) h1;refine⟨fun x hx=> .inr ?_,f2 fun r b hr=>(aD.lt hr).2,f3⟩
  obtain⟨r,b,g1,g2,g3⟩:=f1 x hx;have FT:¬γ.sh b:=by
   rcases hK.fresh r b g1 with h3|⟨_,h4⟩
   ·exact hM.sh r b h3
   ·intro hs;have:=hJ.dD b hs;omega
  refine⟨?_,fun k _ _ hk=>?_,fun _ k _ _ hk=>?_⟩
  ·rintro⟨a,ha,hs⟩
   rw[ha]at g2;injection g2 with g2
   exact FT (g2▸hs)
  ·rcases hk with⟨b',_,hk⟩|⟨a,_,p,hp,_⟩
   ·exact(x1 k b').1 hk
   ·rw[hM.ph]at hp;cases hp
  ·obtain⟨b',_,hk⟩:=hk
   exact(x1 k b').2 hk
set_option maxRecDepth 100000 in
theorem PN (B:iC tF Tryz.prog Tw.prog.funcs spec good)(zF:∀f,spec f=true→f=cU)(So:spec 121=false)(IW:good 121=true)
  (BS:iC tF Tw.prog Tw.prog.funcs spec kn) (Xp:spec Tw.iV=false) (fD:∀f,good f=true→dj f=none→kn f=true) (Xq:kn Tw.iV=true)
  (hO:∀w,¬R .outgrown w) (hP:∀x w,Plain tF (.panic x)→¬R (.panicked [{v:=x,recovered:=false}]) w) (hA:∀us w,R (.panicked [{v:=nz us,recovered:=false}]) w→zH us w.heap)
  (ZD:∀{γ:Gh} {w:World} {t:Trace} {j:Nat} {m:az} {f' f:Frame} {v:World},JJ γ w t j→Deaf t 0=0→MI N0 m v w0 γ w→m.good=good→WR m (v.on w.tape w.drawn) w→FR Tryz.prog spec m f' f→f'.mode= .returning→Ends Tw.prog (bE Tw.prog R) f' [cJ] v→
   ∃o w1 es,stepG Tryz.prog true (G f []) w= .ended o w1 es∧Q γ w (t++MemOp.ofEvents 0 f.fn f.place es) j o w1):
  ∀{f':Frame} {bV:List Frame} {v:World},Ends Tw.prog (bE Tw.prog R) f' bV v→∀{fs' fs:List Frame} {m:az} {f:Frame} {γ:Gh} {w:World},bV=fs'++[cJ]→m.good=good→
   (FR Tryz.prog spec m f' f∨(kE Tryz.prog Tw.prog.funcs spec m f' f∧fs'≠[]))→lj Tryz.prog spec m fs' fs→WR m (v.on w.tape w.drawn) w→MI N0 m v w0 γ w→MP (sys Tryz.prog) Q false 0 γ w (G f fs):=by
 intro f' bV v hE;refine Ends.ind (Q:=Tw.prog) (Stop:=bE Tw.prog R) (C:=fun f' bV v=>∀{fs' fs:List Frame} {m:az} {f:Frame} {γ:Gh} {w:World},bV=fs'++[cJ]→m.good=good→
   (FR Tryz.prog spec m f' f∨(kE Tryz.prog Tw.prog.funcs spec m f' f∧fs'≠[]))→lj Tryz.prog spec m fs' fs→WR m (v.on w.tape w.drawn) w→MI N0 m v w0 γ w→MP (sys Tryz.prog) Q false 0 γ w (G f fs)) ?_ hE
 intro f' bV v hE ih fs' fs m f γ w nT hg hf hs hw hM;subst nT hg;rcases hf with hf|⟨hf,bY⟩
 ·by_cases hl:f'.mode= .returning∧fs'=[]
  ·
   obtain⟨hl,rfl⟩:=hl
   cases hs;refine .mk rfl nofun nofun fun aX w1 t1 j1 h1 jT tD _=>?_;obtain⟨rfl,e1,s1⟩:=jG hM.ph (iG h1);have aD:WR m (v.on w1.tape w1.drawn) w1:=hw.stay (fun r t _=>by rw[e1]) s1
   obtain⟨o,w2,es,q1,q2⟩:=ZD jT tD (hM.heap e1 s1) rfl aD hf hl hE;exact⟨.fin o w2 es,⟨q1,q2⟩,fun x b' e=>(by cases e),fun x b' e=>(by cases e)⟩
  ·
   refine .go rfl fun aX w1 t1 j1 h1 jT tD=>?_;obtain⟨rfl,e1,s1⟩:=jG hM.ph (iG h1);have aD:WR m (v.on w1.tape w1.drawn) w1:=hw.stay (fun r t _=>by rw[e1]) s1
   have ZF:=hM.heap e1 s1;obtain⟨n,Bn,g1,Y1,RG,v2,w2,es,aQ,q1,q2,q3,q4,q5,q6,q7,q8⟩:=tx (e:=[]) B hO hP hE hf hs w1.tape w1.drawn aD hl true;obtain⟨k1,k2⟩:=hE.go (og B hO hf hl) q1 q2;rw[List.append_nil,List.append_nil]at q3;obtain⟨a1,a2⟩:=Cu (fn:=(G f fs).frame.fn) (pos:=(G f fs).frame.place) ZF jT q7 q6 q8;refine⟨⟨G g1 RG,w2,es,aX⟩,false,⟨q3,a1,a2⟩,?_⟩;show MP (sys Tryz.prog) Q false (deafBehind 0 es) aX w2 (G g1 RG)
   rw[q8.hears];refine ih _ _ _ k2 k1 rfl q7.le.good.symm q4 q5 ?_ (ZF.step jT q7);have e1:w2.tape=v2.tape:=q6.tape
   have e2:w2.drawn=v2.drawn:=q6.drawn
   rw[e1,e2];exact q6
 ·
  obtain⟨g,us,vs,fW,rfl,rfl,yU,kU⟩:=pd hf;have IX:=zF g fW;subst IX;obtain⟨x0,x1,x2,rfl⟩:=EI (kU 3 rfl);have UD:Ends Tw.prog (bE Tw.prog R) (Frame.enter Tw.prog cU #[x0,x1,x2] .normal) (fs'++[cJ]) v:=hE
  have cl:zH #[x0,x1,x2] v.heap:=by
   obtain⟨v',e1,h1⟩:=qP hO rfl (uw B hs) UD;have:=hA _ _ h1
   rw[e1]at this;exact this
  obtain⟨ga,gl,gc,sb,so,sc,n,ms,gs,a,vT,n1,n5,dO⟩:=cl;obtain⟨cE,Sv,_⟩:=dO v rfl
  cases hs with
  |nil=>exact absurd rfl bY
  | @cons c' c eJ fs hc QV ZG=>
    obtain⟨d,ds,ZH⟩:∃d ds,eJ++[cJ]=d::ds:=by cases eJ with
     |nil=>exact⟨_,_,rfl⟩
     |cons d ds=>exact⟨_,_,rfl⟩
    obtain⟨T1,d1,KH⟩:=RN hO UD;have hwl:WR (BH m kn) (v.on T1 d1) (v.on T1 d1):=by
     have h1:=hw.left (g:=kn) fD;exact⟨h1.inj,h1.kM,rfl,rfl,rfl⟩
    have fI:FR Tw.prog spec (BH m kn) (Frame.enter Tw.prog Tw.iV #[x0,x1,x2] .normal) (Frame.enter Tw.prog Tw.iV #[x0,x1,x2] .normal):=
     FR.enter (P:=Tw.prog) (F:=Tw.prog.funcs) (m:=BH m kn) BS Xq Xp (yU.left fD)
    have cG:Ends Tw.prog (bE Tw.prog (Ct n a v)) (Frame.enter Tw.prog Tw.iV #[x0,x1,x2] .normal) [cJ] (v.on T1 d1):=
     ends_of_calls (fun w h=>by obtain⟨_,h,_⟩:=h;cases h) fun T=>(dO ((v.on T1 d1).on T 0) rfl).2.2
    obtain⟨y,v1,T2,d2,hR,UC⟩:=KJ (Q:=Tw.prog) (R:=R) (spec:=spec) (good:=kn) (Rf:=Ct n a v) BS (fun {n f' f fs' fs v} uQ he sg bY=>Su (uQ▸BS) zF (fun w h=>by obtain⟨_,h,_⟩:=h;cases h) (fun c w h=>by obtain⟨_,h,_⟩:=h;cases h) he sg bY) (fun w h=>by obtain⟨_,h,_⟩:=h;cases h) (fun c w h=>by obtain⟨_,h,_⟩:=h;cases h)
     (c:=fA x0 x1 x2) (cs:=c'::eJ++[cJ]) (by simp) cG (fs':=[]) (m:=BH m kn) rfl rfl fI .nil hwl KH.1
    have ZI:pc Tw.prog (bE Tw.prog R) (Frame.enter Tw.prog Tw.iV #[x0,x1,x2] .normal,fA x0 x1 x2::(c'::eJ++[cJ]),v.on T1 d1) ((fA x0 x1 x2).finish y,c'::eJ++[cJ],v1):=UC
    have RE:=KH.trans ZI;obtain⟨Bk,hy,hBk,⟨cells,lT,fj,hc3⟩,hold,hos⟩:=hR;have hF4:pc Tw.prog (bE Tw.prog R) ((fA x0 x1 x2).finish y,c'::eJ++[cJ],v1) (c'.finish y,eJ++[cJ],v1):=by
     have h1:=RE.1;show pc _ _ (_,c'::(eJ++[cJ]),_) _
     rw[ZH];refine OQ hO ?_;rw[←ZH];exact h1
    have ZJ:=RE.trans hF4;have Xr:ny Tw.prog (bE Tw.prog R) (Frame.enter Tw.prog cU #[x0,x1,x2] .normal,c'::eJ++[cJ],v) (c'.finish y,eJ++[cJ],v1):=by
     rcases ZJ.2 with h1|h1
     ·have h2:=congrArg (fun z:Frame×List Frame×World=>z.2.1.length) h1
      simp at h2
     ·exact h1
    injection hy with hy
    subst hy;have ZK:x0= .slice (some ga) gl gc∧x1= .slice (some ⟨sb,so,none⟩) n sc∧x2= .int .i64 ms:=by
     have h0:=congrArg (fun z:Array Value=>z[0]?) vT
     have h1:=congrArg (fun z:Array Value=>z[1]?) vT
     have h2:=congrArg (fun z:Array Value=>z[2]?) vT
     simp at h0 h1 h2
     exact⟨h0,h1,h2⟩
    obtain⟨rfl,rfl,rfl⟩:=ZK;obtain⟨z0,z1,z2,rfl⟩:=EI (us:=vs) (by rw[←yU.1];rfl)
    have ly:VR m (.slice (some ga) gl gc) z0:=yU.2 0 (by simp) (by simp)
    have tu:VR m (.slice (some ⟨sb,so,none⟩) n sc) z1:=yU.2 1 (by simp) (by simp)
    have Bf:VR m (.int .i64 ms) z2:=yU.2 2 (by simp) (by simp)
    cases Bf
    cases ly with
    | @slice _ Sm _ _ IX=>
      cases tu with
      | @slice _ q _ _ hq=>
        obtain⟨qb,qo,qs⟩:=q;obtain⟨Sw,Re,_,ZL⟩:=hq;dsimp only at Sw Re ZL
        subst Re ZL;have ai:=(hw.lt Sw).2;refine Sj (a:=a) (gs:=gs) (ga:=Sm) (gl:=gl) (gc:=gc) (sb:=qb) (so:=qo) (sc:=sc) (ms:=ms) (N:=w.heap.size) (n:=n) (c:=c) (cs:=fs) hM.ph rfl n1 n5 ai (hM.sh _ _ Sw) (fun i hi=>?_) ?_ fun aX w1 hA1=>?_
        ·obtain⟨y,hy1,hy2⟩:=(hw.cell (a:=⟨sb,qo+i,none⟩) (b:=⟨qb,qo+i,none⟩) ⟨Sw,rfl,rfl,rfl⟩).1 _ (cE i hi)
         cases hy2;exact hy1
        ·exact Sn B zF So IW rfl hw rfl IX hM.sh rfl rfl rfl n5 rfl (fun _ _=>rfl) Sv
        ·
         obtain⟨ph1,ZM,sz1,VY,Xs,cs2,ZN,ZO,ZP⟩:=hA1;have hBn:m Bk=none:=hw.Sl hBk
         have Sq:az.le m (m.put Bk (w.heap.size+3)):=EG hBn
         have Cv:∀r t,m r=some t→r<v.heap.size∧t<w.heap.size:=fun r t h=>hw.lt h
         refine ih _ _ _ Xr ZJ.1 (m:=m.put Bk (w.heap.size+3)) rfl rfl (.inl (hc.finish QV Sq (.slice n n ⟨EH,rfl,rfl,rfl⟩))) (ZG.mono Sq) ?_ ?_
         ·refine⟨fun r s t hr hs=>?_,fun r t hr=>?_,(ZM.2.1.trans hw.os).trans hos.symm,rfl,rfl⟩
          ·rcases l8 hr with⟨h1,h2⟩|h1<;>rcases l8 hs with⟨h3,h4⟩|h3
           ·omega
           ·exact absurd (Cv _ _ h3).2 (by omega)
           ·exact absurd (Cv _ _ h1).2 (by omega)
           ·exact hw.inj r s t h1 h3
          ·rcases l8 hr with⟨rfl,rfl⟩|h1
           ·refine⟨_,_,lT,ZN,.cells (Fz.refl _) ⟨fj.trans ZO.symm,fun i h1 h2=>?_⟩⟩
            have hi:i<5*n:=by omega
            have e1:=hc3 (i / 5) (i % 5) (by omega) (by omega)
            have e2:=ZP (i / 5) (i % 5) (by omega) (by omega)
            rw[show 5*(i / 5)+i % 5=i from by omega]at e1 e2
            rw[Array.getElem?_eq_getElem h1]at e1;rw[Array.getElem?_eq_getElem h2]at e2;rw[Option.some.inj e1,Option.some.inj e2];have h5:i % 5<5:=by omega
            generalize i % 5=c at h5;obtain rfl|rfl|rfl|rfl|rfl:c=0∨c=1∨c=2∨c=3∨c=4:=by omega
            ·exact .int _ _
            ·exact .int _ _
            ·exact .int _ _
            ·exact .bool _
            ·exact .bool _
           ·obtain⟨o,p,h2,h3,h4⟩:=hw.kM r t h1
            have nS:v.heap[r]?=some o:=h2
            refine⟨o,p,?_,?_,h4.mono Sq⟩
            ·show v1.heap[r]?=some o
             rw[←nS];exact hold r (Cv _ _ h1).1
            ·rw[VY t (Cv _ _ h1).2 (hM.sh _ _ h1)]
             exact h3
         ·refine⟨ph1,fun r t hr hs=>?_,fun b hb=>?_,fun t ht=>?_,fun r t hr ht=>?_,hM.same.trans ZM,by have:=hM.size;omega,fun b hb=>?_⟩
          ·rcases(Xs t).1 hs with h1|h1
           ·rcases l8 hr with⟨_,h2⟩|h2
            ·have:=hM.dD _ h1
             omega
            ·exact hM.sh _ _ h2 h1
           ·rcases l8 hr with⟨_,h2⟩|h2
            ·omega
            ·have:=(Cv _ _ h2).2;omega
          ·rcases(Xs b).1 hb with h1|h1
           ·exact hM.U8 b h1
           ·have:=hM.size;omega
          ·rw[VY t (by have:=hM.size;omega) (fun hs=>by have:=hM.U8 t hs;omega)]
           exact hM.old t ht
          ·rcases l8 hr with⟨_,h2⟩|h2
           ·have:=hM.size;omega
           ·exact(hM.mj r t h2 ht).same (hold r (Cv _ _ h2).1)
          ·rcases(Xs b).1 hb with h1|h1
           ·have:=hM.dD b h1;omega
           ·omega
end
end Go.Proofs.YtjklkppncmhehaaGreat.Sr
namespace Go.Proofs.YtjklkppncmhehaaGreat.Sr
open Go Go.Conc Go.ConcN Go.RowKit
def U9:Gh:={ow:=fun _ _=>False,ro:=fun _ _=>False,sh:=fun _=>False,st:=fun _=> .off,wm:= .op,ph:=none,extra:=0,j:=0}
theorem jj0 (W:World):JJ U9 W #[] 0:=by
 refine⟨TJ.init _ _,⟨fun _ _ _ h=>h.elim,fun _ _ _ h=>h.elim,fun _ _ h=>h.elim,fun _ _ h=>h.elim,fun p hp=>(by cases hp)⟩,rfl,fun _ _ h=>h.elim,fun _ _ h=>h.elim,fun _ h=>h.elim,fun _=>⟨fun _ _=>⟨fun h=>h,fun h=>h⟩,fun _=>rfl,rfl⟩,fun p hp=>(by cases hp),fun p hp=>(by cases hp)⟩
def Xt (e:Ending)(w:World):Prop:=∃us,e= .panicked [{v:=nz us,recovered:=false}]∧zH us w.heap
def qU (e:Ending)(w:World):Prop:=e= .returned (.bool true)∨Xt e w
theorem PO {us vs:Array Value}(h:nz us=nz vs):us=vs:=by
 unfold nz at h;injection h with _ h
 injection h with _ h _
theorem wq (w:World):¬qU .outgrown w:=by
 rintro(h|⟨_,h,_⟩)<;>cases h
theorem IY (x:Value)(w:World)(hp:Plain tF (.panic x)):¬qU (.panicked [{v:=x,recovered:=false}]) w:=by
 rintro(h|⟨us,h,_⟩)
 ·cases h
 ·injection h with h
  injection h with h _
  injection h with h _
  exact hp _ h
theorem PQ (us:Array Value)(w:World)(h:qU (.panicked [{v:=nz us,recovered:=false}]) w):zH us w.heap:=by
 rcases h with h|⟨vs,h,hk⟩
 ·cases h
 ·injection h with h
  injection h with h _
  injection h with h _
  rw[PO h];exact hk
theorem PR {Q:Program}{fn:FuncId}{fr:Func}{t:Array Value}{todo:List Item}{w w1:World}{x:Value}{es:Array Event}(hf:Q.funcs[fn]?=some fr)(hi:Q.inits.idxOf? fn=none)(h:(results fr t).runT Q w #[]=(.ok x w1,es)):
  stepG Q true (G (aH fn t todo .returning) []) w= .ended (.done x) w1 (seen Q fn es):=by
 simp only[G,aH,stepG,unwind,hf,h,doReturn,hi,GStep.after,Array.append_empty,Bool.not_true,Bool.false_eq_true,if_false]
def Nf (W:World)(γ:Gh)(w:World)(t:Trace)(j:Nat)(o:Outcome)(w1:World):Prop:=
 o= .done (.bool true)∧γ.ph=none∧(∃B,TJ γ B t j)∧(∀k,Gh.dG γ k)∧Below W.heap.size W w1
section
variable {spec good kn:FuncId→Bool}
theorem PS (B:iC tF Tryz.prog Tw.prog.funcs spec good)(zF:∀f,spec f=true→f=cU)(So:spec 121=false)(IW:good 121=true)
  (BS:iC tF Tw.prog Tw.prog.funcs spec kn) (Xp:spec Tw.iV=false) (fD:∀f,good f=true→dj f=none→kn f=true) (Xq:kn Tw.iV=true) (cG:∀f,good f=true→Tryz.prog.inits.idxOf? f=none)
  {f:FuncId} {us vs:Array Value} {m:az} {v W:World} (BI:good f=true) (L3:spec f=false) (Sp:m.good=good) (yU:AR m us vs) (hw:WR m (v.on W.tape W.drawn) W) (mu:∀r t,m r=some t→dV v r)
  (zI:∀T,Calls Tw.prog f us (v.on T 0) qU):
  ∃M last o w' t',runNT Tryz.prog (M+1) (solo (G (Frame.enter Tryz.prog f vs .normal) []) W) #[]=(.ended o w',t')∧runN Tryz.prog M (solo (G (Frame.enter Tryz.prog f vs .normal) []) W)= .next last∧step Tryz.prog last= .ended o w'∧
   Go.Conc.Good Tryz.prog (fun x W'=>x= .bool true∧Below W.heap.size W W') last o w' t':=by
 subst Sp;have hE:Ends Tw.prog (bE Tw.prog qU) (Frame.enter Tw.prog f us .normal) [cJ] v:=ends_of_calls wq zI
 have hMI:MI W.heap.size m v W U9 W:=⟨rfl,fun _ _ _ h=>h,fun _ h=>h.elim,fun _ _=>rfl,fun r t hr _=>mu r t hr,⟨rfl,rfl,rfl⟩,Nat.le_refl _,fun _ h=>h.elim⟩
 have hMP:MP (sys Tryz.prog) (Nf W) false 0 U9 W (G (Frame.enter Tryz.prog f vs .normal) []):=by
  refine PN (R:=qU) (N0:=W.heap.size) (w0:=W) (Q:=Nf W) B zF So IW BS Xp fD Xq wq IY PQ ?_ hE (fs':=[]) (fs:=[]) (m:=m) rfl rfl (.inl (FR.enter B BI L3 yU)) .nil hw hMI;intro γ w t j n f' f0 v1 hJ hd hM Sx aD hf hl hE1;have B1:iC tF Tryz.prog Tw.prog.funcs spec n.good:=Sx▸B
  obtain⟨x,T',d',r1,r2⟩:=vW B1 wq hE1 hf aD hl;have hx:x= .bool true:=by
   rcases r1 with h|⟨_,h,_⟩
   ·injection h
   ·cases h
  subst hx
  cases hf with
  | @mk fn bd tm todo mode fW bh ha ok hm=>
    obtain rfl:mode= .returning:=hl
    obtain⟨fr,e1,e2,e3⟩:=B1.same fn bh fW;have ll:=jj (F:=Tw.prog.funcs) (m:=n) B.rt fr ha;obtain⟨_,_,_,cN,q1,q2⟩:=r2;have yc:Tw.prog.funcs[fn]?=some cN:=q1
    rw[e1]at yc;obtain rfl:=Option.some.inj yc
    have RF:WR n (v1.on T' d') (w.on T' d'):=⟨aD.inj,aD.kM,aD.os,rfl,rfl⟩
    obtain⟨Dm,hr⟩:=qO (ll.sf RF) q2 w.tape w.drawn;obtain⟨n2,y,w2,us1,jR,g1,g2,g3,g4,g5,g6⟩:=ll.run (fs:= #[]) aD hr;obtain⟨Ko,u1,u2,u3⟩:=ll.writes aD hr;have vT:us1=Ko:=by
     have:=g2.symm.trans u1
     simpa using this
    subst vT;have F2:oT n2 (v1.on w.tape w.drawn) (seen Tryz.prog fn (#[]++jR.toArray)):=oT.of g3 u2
    obtain⟨s1,s2⟩:=Cu (fn:=fn) (pos:=(aH fn tm todo .returning).place) hM hJ g6 g5 F2;have L4:=hM.step hJ g6
    cases g4;refine⟨_,_,_,PR e2 (cG fn (Sx▸bh)) g1,rfl,L4.ph,⟨_,s1.tj⟩,fun k=>?_,⟨L4.same.2.1,L4.same.1,L4.same.2.2,L4.size,fun b hb=>L4.old b hb⟩⟩
    obtain⟨_,x2,x3⟩:=s1.none L4.ph;exact⟨x2 k,by rw[x3];exact nofun,by rw[x3];exact nofun⟩
 obtain⟨ρ,fq⟩:=hMP.DC;have ZQ:zh (sys Tryz.prog) (Nf W) (crowd #[G (Frame.enter Tryz.prog f vs .normal) []] W none) #[]:=
  St.runs (S:=sys Tryz.prog) (Q:=Nf W) (Tr.acc ρ) 0 (fun _=> .nat 0) true _ _ _ _ U9 false _ ⟨rfl,jj0 W,fq,rfl,fun h=>(by cases h),fun k k1 k2=>absurd k2 (by omega)⟩
 obtain⟨M,eJ,w',Bh,t',ah,w2,j',o,w1,ops,h1,h2,⟨q1,q2,⟨Bq,q3⟩,q4,q5⟩,h4,h5,h6⟩:=ZQ;have js:runNT Tryz.prog M (solo (G (Frame.enter Tryz.prog f vs .normal) []) W) #[]=(.next (crowd eJ w' Bh),t'):=h1
 refine⟨M,crowd eJ w' Bh,o,w1,t'++ops,?_,?_,?_,.bool true,q1,⟨rfl,q5⟩,q3.ct.nr,fun i g hg hn hc=>?_,⟨fun g hg=>?_,rfl⟩,fun i g hi hn=>?_⟩
 ·rw[runNT_add,js]
  simp only[runNT,h2]
 ·rw[←runNT_fst _ _ _ #[],js]
 ·show(stepT Tryz.prog _).1=_
  rw[h2]
 ·rcases q3.over i g hg hn hc with h|⟨p,hp,_⟩
  ·exact h
  ·rw[q2]at hp;cases hp
 ·obtain⟨i,hi,rfl⟩:=List.getElem_of_mem hg
  have eN:i+1<eJ.size:=by simp[crowd]at hi;omega
  obtain⟨x,Xu,OE⟩:=h6 (i+1) (by omega) (by omega)
  obtain⟨n,hn⟩:=OE (q4 _);have:((crowd eJ w' Bh).gs.toList.drop 1)[i]=x:=by
   have e:eJ[i+1]?=some x:=Xu
   rw[Array.getElem?_eq_getElem eN]at e;simp only[List.getElem_drop,crowd];have e2:=Option.some.inj e;simp only[Array.getElem_toList,Nat.add_comm 1 i];exact e2
  rw[this];exact⟨n,hn.leaves⟩
 ·have eN:i<eJ.size:=(Array.getElem?_eq_some_iff.1 hi).1
  obtain⟨x,Xu,OE⟩:=h6 i (by omega) (by omega)
  obtain⟨n,cI⟩:=OE (q4 _);have U_:eJ[i]?=some g:=hi
  rw[Xu]at U_;obtain rfl:=Option.some.inj U_
  exact⟨n,cI.hears _⟩
end
end Go.Proofs.YtjklkppncmhehaaGreat.Sr
namespace Go.Proofs.YtjklkppncmhehaaGreat.Sr
open Go Go.Conc Go.RowKit
theorem qV:∀y:Value,∃x,(∀m:az,VR m x y)∧∀k z,y= .int k z→x=y
 | .agg cs=>by
   have h:∀i (hi:i<cs.size),∃x,∀m:az,VR m x cs[i]:=fun i hi=>(qV cs[i]).imp fun _ h=>h.1
   let us:Array Value:=Array.ofFn fun i:Fin cs.size=>(h i.1 i.2).choose
   refine⟨.agg us,fun m=> .agg (by simp[us]) fun i h1 h2=>?_,fun k z e=>by cases e⟩
   simp only[us,Array.getElem_ofFn];exact(h i h2).choose_spec m
 | .tuple cs=>by
   have h:∀i (hi:i<cs.size),∃x,∀m:az,VR m x cs[i]:=fun i hi=>(qV cs[i]).imp fun _ h=>h.1
   let us:Array Value:=Array.ofFn fun i:Fin cs.size=>(h i.1 i.2).choose
   refine⟨.tuple us,fun m=> .tuple (by simp[us]) fun i h1 h2=>?_,fun k z e=>by cases e⟩
   simp only[us,Array.getElem_ofFn];exact(h i h2).choose_spec m
 | .int k z=>⟨.int k z,fun _=> .int k z,fun _ _ _=>rfl⟩
 | .bool b=>⟨.bool b,fun _=> .bool b,fun _ _ e=>by cases e⟩
 | .nilIface=>⟨.nilIface,fun _=> .nilIface,fun _ _ e=>by cases e⟩
 | .float a b=>⟨.nilFunc,fun _=> .gF _ (fun _=>⟨fun e=>(by cases e),fun e=>(by cases e)⟩) ⟨fun e=>(by cases e),fun _ e=>(by cases e)⟩,fun _ _ e=>by cases e⟩
 | .complex a b c=>⟨.nilFunc,fun _=> .gF _ (fun _=>⟨fun e=>(by cases e),fun e=>(by cases e)⟩) ⟨fun e=>(by cases e),fun _ e=>(by cases e)⟩,fun _ _ e=>by cases e⟩
 | .string s=>⟨.nilFunc,fun _=> .gF _ (fun _=>⟨fun e=>(by cases e),fun e=>(by cases e)⟩) ⟨fun e=>(by cases e),fun _ e=>(by cases e)⟩,fun _ _ e=>by cases e⟩
 | .pointer a=>⟨.nilFunc,fun _=> .gF _ (fun _=>⟨fun e=>(by cases e),fun e=>(by cases e)⟩) ⟨fun e=>(by cases e),fun _ e=>(by cases e)⟩,fun _ _ e=>by cases e⟩
 | .slice a l c=>⟨.nilFunc,fun _=> .gF _ (fun _=>⟨fun e=>(by cases e),fun e=>(by cases e)⟩) ⟨fun e=>(by cases e),fun _ e=>(by cases e)⟩,fun _ _ e=>by cases e⟩
 | .map r=>⟨.nilFunc,fun _=> .gF _ (fun _=>⟨fun e=>(by cases e),fun e=>(by cases e)⟩) ⟨fun e=>(by cases e),fun _ e=>(by cases e)⟩,fun _ _ e=>by cases e⟩
 | .chan r=>⟨.nilFunc,fun _=> .gF _ (fun _=>⟨fun e=>(by cases e),fun e=>(by cases e)⟩) ⟨fun e=>(by cases e),fun _ e=>(by cases e)⟩,fun _ _ e=>by cases e⟩
 | .func f a b=>⟨.nilFunc,fun _=> .gF _ (fun _=>⟨fun e=>(by cases e),fun e=>(by cases e)⟩) ⟨fun e=>(by cases e),fun _ e=>(by cases e)⟩,fun _ _ e=>by cases e⟩
 | .nilFunc=>⟨.nilFunc,fun _=> .nilFunc,fun _ _ e=>by cases e⟩
 | .iface t v=>⟨.nilFunc,fun _=> .gF _ (fun _=>⟨fun e=>(by cases e),fun e=>(by cases e)⟩) ⟨fun e=>(by cases e),fun _ e=>(by cases e)⟩,fun _ _ e=>by cases e⟩
termination_by y=>SizeOf.sizeOf y
decreasing_by
 all_goals
  have:=Array.sizeOf_getElem cs i hi
  simp
  omega
noncomputable def L5 (y:Value):Value:=(qV y).choose
theorem PT (m:az)(y:Value):VR m (L5 y) y:=(qV y).choose_spec.1 m
theorem L6 (k:IntKind)(z:Int):L5 (.int k z)= .int k z:=(qV (.int k z)).choose_spec.2 k z rfl
noncomputable def EK:Obj→Obj
 | .cells cs e fz=> .cells (cs.map L5) e (0,max cs.size fz.2)
 |o=>o
open Classical in
theorem zJ (good:FuncId→Bool)(W:World)(S:Nat→Prop)(hS:∀b,S b→∃cs e fz,W.heap[b]?=some (.cells cs e fz)):
  ∃(v:World) (m:az),m.good=good∧(∀b,S b→m b=some b)∧WR m (v.on W.tape W.drawn) W∧(∀r t,m r=some t→dV v r)∧(∀q k z,W.cell? q=some (.int k z)→v.cell? q=some (.int k z))∧v.heap.size=W.heap.size:=by
 let v:World:={W with heap:=W.heap.mapIdx fun i o=>if S i then EK o else o}
 let m:az:=⟨fun r=>if S r then some r else none,good⟩
 have hm:∀{r t},m r=some t→r=t∧S r:=by
  intro r t h;have h':(if S r then some r else none)=some t:=h
  by_cases hs:S r
  ·rw[if_pos hs]at h';exact⟨Option.some.inj h',hs⟩
  ·rw[if_neg hs]at h';cases h'
 have hv:∀b,v.heap[b]?=(W.heap[b]?).map fun o=>if S b then EK o else o:=by
  intro b;show(W.heap.mapIdx fun i o=>if S i then EK o else o)[b]?=_
  simp
 refine⟨v,m,rfl,fun b hb=>?_,⟨fun r s t hr hs=>(hm hr).1.trans (hm hs).1.symm,fun r t hr=>?_,rfl,rfl,rfl⟩,fun r t hr=>?_,fun q k z hq=>?_,?_⟩
 ·show(if S b then some b else none)=some b
  rw[if_pos hb]
 ·obtain⟨rfl,hs⟩:=hm hr
  obtain⟨cs,e,fz,h1⟩:=hS r hs;refine⟨_,_,(by show v.heap[r]?=_;rw[hv,h1];simp only[Option.map_some,if_pos hs];rfl),h1,.cells (fun o h1 h2=>⟨Nat.zero_le _,by show o<max cs.size fz.2;omega⟩) ⟨by simp,fun i h1 h2=>?_⟩⟩
  simp only[Array.getElem_map];exact PT m _
 ·obtain⟨rfl,hs⟩:=hm hr
  obtain⟨cs,e,fz,h1⟩:=hS r hs;refine .inl ⟨_,e,_,(by rw[hv,h1];simp only[Option.map_some,if_pos hs];rfl),?_⟩
  simp
  omega
 ·unfold World.cell? at hq⊢
  rw[hv]
  cases ho:W.heap[q.block]? with
  |none=>rw[ho]at hq;cases hq
  |some o=>
   rw[ho]at hq;by_cases hs:S q.block
   ·simp only[Option.map_some,if_pos hs]
    cases o with
    |cells cs e fz=>
     simp only[EK]at hq⊢;by_cases fW:q.spot.isSome
     ·rw[if_pos fW]at hq;cases hq
     ·rw[if_neg fW]at hq⊢
      rw[Array.getElem?_map,hq];simp[L6]
    |_=>cases hq
   ·simp only[Option.map_some,if_neg hs]
    exact hq
 ·show(W.heap.mapIdx _).size=_
  simp
end Go.Proofs.YtjklkppncmhehaaGreat.Sr
namespace Go.Proofs.YtjklkppncmhehaaGreat.Sr
open Go Go.Conc
def lz (f:FuncId):Bool:=Tw.tl.contains f
def tI (f:FuncId):Bool:=Tw.tl.contains f||f==Tw.iV
def qW (f:FuncId):Bool:=f==cU
theorem tJ {f:FuncId}(h:lz f=true):f∈Tw.tl:=by simpa[lz]using h
def IZ (P:Program)(good:FuncId→Bool)(f:FuncId):Bool:=match P.funcs[f]? with
 |some fn=>nn P good fn&&fn.name != "runtime.NumGoroutine"
 |none=>false
set_option maxRecDepth 100000
theorem U':(Tw.tl.filter (·!=cU)).all (IZ Tryz.prog lz)=true:=by kernel_rfl
theorem Sy:(Tw.tl.filter (·!=cU)).all (IZ Tw.prog tI)=true:=by kernel_rfl
theorem Va:IZ Tw.prog tI Tw.iV=true:=by kernel_rfl
theorem Sz:(Tryz.prog.funcs[cU]?).any (fun fn=>fn.body.isSome&&fn.name != "runtime.NumGoroutine")=true:=by kernel_rfl
theorem I0:(Tw.prog.funcs[cU]?).any (fun fn=>fn.body.isSome&&fn.name != "runtime.NumGoroutine")=true:=by kernel_rfl
theorem SA:Tw.tl.all (fun f=>(Tryz.prog.inits.idxOf? f).isNone)=true:=by kernel_rfl
theorem I1 {f:FuncId}(h:f≠cU){fn:Func}(hf:Tryz.prog.funcs[f]?=some fn):Tw.prog.funcs[f]?=some fn:=by
 have ai:f<Tryz.funcs.size:=(Array.getElem?_eq_some_iff.1 hf).1
 show((Tryz.funcs.setIfInBounds cU Tw.FI).push Tw.MW)[f]?=some fn
 rw[Array.getElem?_push,if_neg (by rw[Array.size_setIfInBounds];exact Nat.ne_of_lt ai),Array.getElem?_setIfInBounds,if_neg (fun e=>h e.symm)]
 exact hf
theorem tK {P:Program}{good:FuncId→Bool}{f:FuncId}(h:IZ P good f=true):∃fn,P.funcs[f]?=some fn∧nn P good fn=true∧fn.body.isSome=true∧fn.name≠ "runtime.NumGoroutine":=by
 unfold IZ at h
 cases hf:P.funcs[f]? with
 |none=>rw[hf]at h;cases h
 |some fn=>
  rw[hf]at h;simp only[Bool.and_eq_true,bne_iff_ne,ne_eq]at h;refine⟨fn,rfl,h.1,?_,h.2⟩;have:=h.1
  unfold nn at this
  cases hb:fn.body with
  |none=>rw[hb]at this;cases this
  |some c=>rfl
theorem wu {P:Program}{f:FuncId}(h:(P.funcs[f]?).any (fun fn=>fn.body.isSome&&fn.name != "runtime.NumGoroutine")=true):∃fn,P.funcs[f]?=some fn∧fn.body.isSome=true∧fn.name≠ "runtime.NumGoroutine":=by
 cases hf:P.funcs[f]? with
 |none=>rw[hf]at h;cases h
 |some fn=>
  rw[hf]at h;simp only[Option.any_some,Bool.and_eq_true,bne_iff_ne,ne_eq]at h;exact⟨fn,rfl,h.1,h.2⟩
theorem Xv:eX tF Tryz.prog:=⟨by decide+kernel,by decide+kernel,by decide+kernel,by decide+kernel⟩
theorem L7:iC tF Tryz.prog Tw.prog.funcs qW lz:=by
 have ok:∀f,lz f=true→f≠cU→∃fn,Tryz.prog.funcs[f]?=some fn∧nn Tryz.prog lz fn=true∧fn.body.isSome=true∧fn.name≠ "runtime.NumGoroutine":=fun f hf hn=>
  tK (List.all_eq_true.1 U' f (List.mem_filter.2 ⟨tJ hf,by simpa using hn⟩))
 refine⟨Xv,Tryz.globals_size,fun f hf=>?_,⟨fun f hf=>?_⟩,fun f hf hs=>?_⟩
 ·have:f=55:=by simpa[yI]using hf
  subst this;exact⟨by decide+kernel,by decide+kernel⟩
 ·by_cases hn:f=cU
  ·subst hn
   obtain⟨a,a1,a2,a3⟩:=wu I0;obtain⟨b,b1,b2,b3⟩:=wu Sz;exact⟨a,b,a1,b1,a2,b2,a3,b3⟩
  ·obtain⟨fn,h1,_,h2,h3⟩:=ok f hf hn
   exact⟨fn,fn,I1 hn h1,h1,h2,h2,h3,h3⟩
 ·have hn:f≠cU:=by simpa[qW]using hs
  obtain⟨fn,h1,h2,_⟩:=ok f hf hn;exact⟨fn,I1 hn h1,h1,h2⟩
theorem Vb:eX tF Tw.prog:=⟨by decide+kernel,by decide+kernel,by decide+kernel,by decide+kernel⟩
theorem L8:iC tF Tw.prog Tw.prog.funcs qW tI:=by
 have ok:∀f,tI f=true→f≠cU→∃fn,Tw.prog.funcs[f]?=some fn∧nn Tw.prog tI fn=true∧fn.body.isSome=true∧fn.name≠ "runtime.NumGoroutine":=fun f hf hn=>by
  by_cases hs:f=Tw.iV
  ·subst hs;exact tK Va
  ·have h:f∈Tw.tl:=by
    simp only[tI,Bool.or_eq_true,List.contains_eq_mem,decide_eq_true_eq,beq_iff_eq]at hf;exact hf.resolve_right hs
   exact tK (List.all_eq_true.1 Sy f (List.mem_filter.2 ⟨h,by simpa using hn⟩))
 refine⟨Vb,Tryz.globals_size,fun f hf=>?_,⟨fun f hf=>?_⟩,fun f hf hs=>?_⟩
 ·have:f=55:=by simpa[yI]using hf
  subst this;exact⟨by decide+kernel,by decide+kernel⟩
 ·by_cases hn:f=cU
  ·subst hn
   obtain⟨a,a1,a2,a3⟩:=wu I0;exact⟨a,a,a1,a1,a2,a2,a3,a3⟩
  ·obtain⟨fn,h1,_,h2,h3⟩:=ok f hf hn
   exact⟨fn,fn,h1,h1,h2,h2,h3,h3⟩
 ·have hn:f≠cU:=by simpa[qW]using hs
  obtain⟨fn,h1,h2,_⟩:=ok f hf hn;exact⟨fn,h1,h1,h2⟩
theorem Cw {f:FuncId}{us vs:Array Value}{m:az}{v W:World}(BI:lz f=true)(L3:qW f=false)(Sp:m.good=lz)(yU:AR m us vs)(hw:WR m (v.on W.tape W.drawn) W)(mu:∀r t,m r=some t→dV v r)
  (zI:∀T,Calls Tw.prog f us (v.on T 0) qU):
  ∃M last o w' t',runNT Tryz.prog (M+1) (solo (G (Frame.enter Tryz.prog f vs .normal) []) W) #[]=(.ended o w',t')∧runN Tryz.prog M (solo (G (Frame.enter Tryz.prog f vs .normal) []) W)= .next last∧step Tryz.prog last= .ended o w'∧
   Go.Conc.Good Tryz.prog (fun x W'=>x= .bool true∧Go.RowKit.Below W.heap.size W W') last o w' t':=
 PS L7 (fun f h=>by simpa[qW]using h) (by decide+kernel) (by decide+kernel) L8 (by decide+kernel) (fun f h hs=>by
  simp only[tI,Bool.or_eq_true,List.contains_eq_mem,decide_eq_true_eq];exact .inl (tJ h)) (by decide+kernel) (fun f h=>by
  have:=List.all_eq_true.1 SA f (tJ h)
  simpa using this) BI L3 Sp yU hw mu zI
end Go.Proofs.YtjklkppncmhehaaGreat.Sr
