/-
What is proved: the starter makes its way as a lone run of the second program does ('main_way'). Conditions: those that the theorem states. a law that a lone run of the second program shows to return true ends well at the machine ('law_runs'). Conditions: those that the theorem states. for slices that came in there is a memory for the lone run, alike where it looks and frozen there ('code_left'). Conditions: those that the theorem states. what is asked of the two programs ('twin_both', 'twin_self', 'twin_law'). No condition.
-/
import Derived.Test.YtjklkppncmhehaaGreatRa23
import Derived.Test.YtjklkppncmhehaaGreatRa11
import Derived.Below
import Derived.Conc.LeavingOf
import Derived.Test.YtjklkppncmhehaaGreatRa02
set_option linter.unusedVariables false
set_option linter.unusedSimpArgs false
namespace Go.Proofs.YtjklkppncmhehaaGreat.Sr
open Go Go.Conc Go.ConcN
def zf (n:Nat)(a:Nat→dB)(v:World)(e:Ending)(w1:World):Prop:=
 ∃B,e= .returned (.slice (some ⟨B,0,none⟩) n n)∧v.heap.size≤B∧(∃cs,w1.heap[B]?=some (.cells cs 107)∧cs.size=5*n∧∀i c,i<n→c<5→cs[5*i+c]?=some ((a i).cell c))∧
  (∀b,b<v.heap.size→w1.heap[b]?=v.heap[b]?)∧w1.os=v.os
def wE (us:Array Value)(h:Array Obj):Prop:=∃(ga:Addr) (gl gc sb so sc n:Nat) (ms:Int) (gs:Nat→Int) (a:Nat→dB),us= #[.slice (some ga) gl gc,.slice (some ⟨sb,so,none⟩) n sc,.int .i64 ms]∧1≤n∧n≤5∧∀v:World,v.heap=h→
 (∀i,i<n→v.cell? ⟨sb,so+i,none⟩=some (.int .i64 (gs i)))∧
 (∀i,i<n→∀(u:World) (gb mb:Nat),(∀q:Addr,q.block<v.heap.size→u.cell? q=v.cell? q)→u.cell? ⟨gb,0,none⟩=some (.slice (some ga) gl gc)→u.cell? ⟨mb,0,none⟩=some (.int .i64 ms)→
    Calls Tw.prog 121 #[.int .i64 (gs i),ptr gb,ptr mb] u fun e _=>e= .returned (a i).val)∧
 Calls Tw.prog Tw.gg us v (zf n a v)
def yy (m:ao)(g:FuncId→Bool):ao:=⟨fun r=>if(m r).isSome then some r else none,g⟩
section
variable {m:ao}{g:FuncId→Bool}{v w:World}
theorem Re {r t:Nat}(h:m r=some t):(yy m g) r=some r:=by
 show(if(m r).isSome then some r else none)=some r
 rw[h];rfl
theorem By {r t:Nat}(h:(yy m g) r=some t):r=t∧∃u,m r=some u:=by
 have h':(if(m r).isSome then some r else none)=some t:=h
 cases e:m r with
 |none=>rw[e]at h';cases h'
 |some u=>rw[e]at h';exact⟨Option.some.inj h',u,rfl⟩
theorem bc.left {a b:Addr}(h:bc m a b):bc (yy m g) a a:=⟨Re h.1,rfl,h.2.2.1,h.2.2.1⟩
theorem VR.left (hg:∀f,m.good f=true→dk f=none→g f=true){x y:Value}(h:VR m x y):VR (yy m g) x x:=by
 induction h with
 |bool b=>exact .bool b
 |int k n=>exact .int k n
 |string s=>exact .string s
 |nilPtr=>exact .nilPtr
 |ptr h=>exact .ptr h.left
 |b9 l c=>exact .b9 l c
 |slice l c h=>exact .slice l c h.left
 |i_=>exact .i_
 |nilFunc=>exact .nilFunc
 |nilIface=>exact .nilIface
 |iface t _ ih=>exact .iface t ih
 |func f hf hs _ ht _ ih ve=>
  refine .func f ?_ rfl (fun i U h2=>ih i U (hs▸U)) rfl (fun i U h2=>ve i U (ht▸U))
  cases f with
  |func f=>exact⟨hg f hf.1 hf.2,hf.2⟩
  |_=>exact hf.elim
 |agg hs _ ih=>exact .agg rfl (fun i U h2=>ih i U (hs▸U))
 |tuple hs _ ih=>exact .tuple rfl (fun i U h2=>ih i U (hs▸U))
 |eU=>exact .nilFunc
theorem AR.left (hg:∀f,m.good f=true→dk f=none→g f=true){us vs:Array Value}(h:AR m us vs):AR (yy m g) us us:=⟨rfl,fun i U h2=>(h.2 i U (h.1▸U)).left hg⟩
theorem WR.left (hg:∀f,m.good f=true→dk f=none→g f=true)(h:WR m v w):WR (yy m g) v v:=by
 refine⟨fun r s t hr hs=>(By hr).1.trans (By hs).1.symm,fun r t hr=>?_,rfl,rfl,rfl⟩
 obtain⟨rfl,u,hu⟩:=By hr;obtain⟨o,p,U,h2,h3⟩:=h.jj r u hu;refine⟨o,o,U,U,?_⟩;rcases h3 with⟨us,vs,e,fz,gz,rfl,rfl,hf,ha⟩|⟨a,b,l,rfl,rfl,ha⟩
 ·exact .inl ⟨us,us,e,fz,fz,rfl,rfl,Fz.refl _,ha.left hg⟩
 ·exact .inr ⟨a,a,l,rfl,rfl,ha.left⟩
end
theorem OQ {spec:FuncId→Bool}{m:ao}(B:fV qH Tw.prog Tw.prog.funcs spec m.good)(wD:∀f,spec f=true→f=cl){Rf:Ending→World→Prop}(hO:∀w,¬Rf .outgrown w)(hP:∀c w,¬Rf (.panicked c) w){f' f:Frame}{fs' fs:List Frame}{v:World}
  (he:jb Tw.prog Tw.prog.funcs spec m f' f) (pC:jC Tw.prog spec m fs' fs) (cG:fs'≠[]):¬Ends Tw.prog (bk Tw.prog Rf) f' (fs'++[cc]) v:=by
 intro hE;obtain⟨g,us,vs,e1,U,h2,_,h3⟩:=mZ he;have:=wD g e1
 subst this;subst U;obtain⟨a,b,x,rfl⟩:=Bx (h3 3 rfl);obtain⟨v',_,hR⟩:=oA (R:=Rf) hO (gs:=fs') rfl (rq B pC) hE;exact hP _ _ hR
structure MI (N0:Nat) (m:ao) (v w0:World) (γ:Gh) (w:World):Prop where
 ph:γ.ph=none
 sh:∀r t,m r=some t→¬γ.sh t
 Rh:∀b,γ.sh b→N0≤b
 old:∀t,t<N0→w.heap[t]?=w0.heap[t]?
 ku:∀r t,m r=some t→t<N0→di v r
 same:br w0 w
 size:N0≤w.heap.size
 cT:∀b,γ.sh b→b<w.heap.size
section
variable {N0:Nat}{m n:ao}{w0 w w1:World}{γ:Gh}{v v1:World}
theorem MI.heap {w':World}(h:MI N0 m v w0 γ w)(e:w'.heap=w.heap)(s:br w w'):MI N0 m v w0 γ w':=
 ⟨h.ph,h.sh,h.Rh,fun t U=>by rw[e];exact h.old t U,h.ku,h.same.trans s,by rw[e];exact h.size,fun b hb=>by rw[e];exact h.cT b hb⟩
theorem MI.step {t:Trace}{j:Nat}{T:Nat→Question→Nat}{d:Nat}(h:MI N0 m v w0 γ w)(hJ:JJ γ w t j)(hK:Kept m n (v.on T d) w v1 w1):MI N0 n v1 w0 γ w1:=by
 have fr:∀r t,n r=some t→m r=some t∨w.heap.size≤t:=fun r t hr=>(hK.fresh r t hr).imp id fun x=>x.2
 refine⟨h.ph,fun r t hr hs=>?_,h.Rh,fun t ht=>?_,fun r t hr ht=>?_,h.same.trans ⟨hK.tape,hK.os,hK.output⟩,Nat.le_trans h.size hK.iF,fun b hb=>Nat.lt_of_lt_of_le (h.cT b hb) hK.iF⟩
 ·rcases fr r t hr with U|U
  ·exact h.sh r t U hs
  ·have:=hJ.cT t hs;omega
 ·rw[hK.old t (Nat.lt_of_lt_of_le ht h.size) fun r hr=>h.ku r t hr ht]
  exact h.old t ht
 ·rcases fr r t hr with U|U
  ·exact(show di (v.on T d) r from h.ku r t U ht).same (hK.ku r (h.ku r t U ht))
  ·have:=h.size;omega
end
section
variable {spec good iR:FuncId→Bool}{R:Ending→World→Prop}{N0:Nat}{w0:World}{Q:Gh→World→Trace→Nat→Outcome→World→Prop}
theorem zg {m n:ao}{γ:Gh}{v w v1 w1:World}{t:Trace}{j:Nat}{es:Array Event}{fn:FuncId}{pos:String}{v0:World}(hM:MI N0 m v0 w0 γ w)(hJ:JJ γ w t j)(hK:Kept m n v w v1 w1)(aF:WR n v1 w1)(he:mO n v es):
  JJ γ w1 (t++MemOp.ofEvents 0 fn pos es) j∧∀k',k'≠0→RR k' γ w γ w1:=by
 obtain⟨x1,x2,x3⟩:=hJ.none hM.ph;refine vW hJ ⟨hK.tape,hK.os,hK.output⟩ hK.iF (fun b hb hh=>?_) fun e Hh=>?_
 ·refine hK.old b hb fun r hr=>?_
  rcases hh with⟨k,hk⟩|hk|⟨p,hp,_⟩
  ·exact hk.elim (fun hk=>absurd hk (x1 k b).1) (fun hk=>absurd hk (x1 k b).2)
  ·exact absurd hk (hM.sh r b hr)
  ·rw[hM.ph]at hp;cases hp
 ·obtain⟨e',U,h2⟩:=he e Hh
  obtain⟨f1,f2,f3,_⟩:=xV.facts (B:=w1.heap.size) U;refine⟨fun x hx=> .inr ?_,f2 fun r b hr=>(aF.lt hr).2,f3⟩
  obtain⟨r,b,g1,g2,g3⟩:=f1 x hx;have Cu:¬γ.sh b:=by
   rcases hK.fresh r b g1 with h3|⟨_,h4⟩
   ·exact hM.sh r b h3
   ·intro hs;have:=hJ.cT b hs;omega
  refine⟨?_,fun k _ _ hk=>?_,fun _ k _ _ hk=>?_⟩
  ·rintro⟨a,ha,hs⟩
   rw[ha]at g2;injection g2 with g2
   exact Cu (g2▸hs)
  ·rcases hk with⟨b',_,hk⟩|⟨a,_,p,hp,_⟩
   ·exact(x1 k b').1 hk
   ·rw[hM.ph]at hp;cases hp
  ·obtain⟨b',_,hk⟩:=hk
   exact(x1 k b').2 hk
set_option maxRecDepth 100000 in
theorem L3 (B:fV qH Tryz.prog Tw.prog.funcs spec good)(wD:∀f,spec f=true→f=cl)(OM:spec 121=false)(Fw:good 121=true)
  (BS:fV qH Tw.prog Tw.prog.funcs spec iR) (T3:spec Tw.gg=false) (dJ:∀f,good f=true→dk f=none→iR f=true) (T4:iR Tw.gg=true)
  (hO:∀w,¬R .outgrown w) (hP:∀x w,Plain qH (.panic x)→¬R (.panicked [{v:=x,recovered:=false}]) w) (hA:∀us w,R (.panicked [{v:=lC us,recovered:=false}]) w→wE us w.heap)
  (Wt:∀{γ:Gh} {w:World} {t:Trace} {j:Nat} {m:ao} {f' f:Frame} {v:World},JJ γ w t j→Deaf t 0=0→MI N0 m v w0 γ w→m.good=good→WR m (v.on w.tape w.drawn) w→FR Tryz.prog spec m f' f→f'.mode= .returning→Ends Tw.prog (bk Tw.prog R) f' [cc] v→
   ∃o w1 es,stepG Tryz.prog true (G f []) w= .ended o w1 es∧Q γ w (t++MemOp.ofEvents 0 f.fn f.place es) j o w1):
  ∀{f':Frame} {bK:List Frame} {v:World},Ends Tw.prog (bk Tw.prog R) f' bK v→∀{fs' fs:List Frame} {m:ao} {f:Frame} {γ:Gh} {w:World},bK=fs'++[cc]→m.good=good→
   (FR Tryz.prog spec m f' f∨(jb Tryz.prog Tw.prog.funcs spec m f' f∧fs'≠[]))→jC Tryz.prog spec m fs' fs→WR m (v.on w.tape w.drawn) w→MI N0 m v w0 γ w→MP (sys Tryz.prog) Q false 0 γ w (G f fs):=by
 intro f' bK v hE;refine Ends.ind (Q:=Tw.prog) (Stop:=bk Tw.prog R) (C:=fun f' bK v=>∀{fs' fs:List Frame} {m:ao} {f:Frame} {γ:Gh} {w:World},bK=fs'++[cc]→m.good=good→
   (FR Tryz.prog spec m f' f∨(jb Tryz.prog Tw.prog.funcs spec m f' f∧fs'≠[]))→jC Tryz.prog spec m fs' fs→WR m (v.on w.tape w.drawn) w→MI N0 m v w0 γ w→MP (sys Tryz.prog) Q false 0 γ w (G f fs)) ?_ hE
 intro f' bK v hE ih fs' fs m f γ w lV hg hf hs hw hM;subst lV hg;rcases hf with hf|⟨hf,cG⟩
 ·by_cases hl:f'.mode= .returning∧fs'=[]
  ·
   obtain⟨hl,rfl⟩:=hl
   cases hs;refine .mk rfl nofun nofun fun aQ w1 t1 j1 U iA qF _=>?_;obtain⟨rfl,e1,s1⟩:=ik hM.ph (fX U);have aF:WR m (v.on w1.tape w1.drawn) w1:=hw.stay (fun r t _=>by rw[e1]) s1
   obtain⟨o,w2,es,q1,q2⟩:=Wt iA qF (hM.heap e1 s1) rfl aF hf hl hE;exact⟨.fin o w2 es,⟨q1,q2⟩,fun x b' e=>(by cases e),fun x b' e=>(by cases e)⟩
  ·
   refine .go rfl fun aQ w1 t1 j1 U iA qF=>?_;obtain⟨rfl,e1,s1⟩:=ik hM.ph (fX U);have aF:WR m (v.on w1.tape w1.drawn) w1:=hw.stay (fun r t _=>by rw[e1]) s1
   have Wu:=hM.heap e1 s1;obtain⟨n,K9,g1,VM,N1,v2,w2,es,aJ,q1,q2,q3,q4,q5,q6,q7,q8⟩:=qA (e:=[]) B hO hP hE hf hs w1.tape w1.drawn aF hl true;obtain⟨k1,k2⟩:=hE.go (ma B hO hf hl) q1 q2;rw[List.append_nil,List.append_nil]at q3;obtain⟨a1,a2⟩:=zg (fn:=(G f fs).frame.fn) (pos:=(G f fs).frame.place) Wu iA q7 q6 q8;refine⟨⟨G g1 N1,w2,es,aQ⟩,false,⟨q3,a1,a2⟩,?_⟩;show MP (sys Tryz.prog) Q false (deafBehind 0 es) aQ w2 (G g1 N1)
   rw[q8.hears];refine ih _ _ _ k2 k1 rfl q7.le.good.symm q4 q5 ?_ (Wu.step iA q7);have e1:w2.tape=v2.tape:=q6.tape
   have e2:w2.drawn=v2.drawn:=q6.drawn
   rw[e1,e2];exact q6
 ·
  obtain⟨g,us,vs,eF,rfl,rfl,vp,jG⟩:=mZ hf;have Fx:=wD g eF;subst Fx;obtain⟨x0,x1,x2,rfl⟩:=Bx (jG 3 rfl);have QL:Ends Tw.prog (bk Tw.prog R) (Frame.enter Tw.prog cl #[x0,x1,x2] .normal) (fs'++[cc]) v:=hE
  have fL:wE #[x0,x1,x2] v.heap:=by
   obtain⟨v',e1,U⟩:=oA hO rfl (rq B hs) QL;have:=hA _ _ U
   rw[e1]at this;exact this
  obtain⟨ga,gl,gc,sb,so,sc,n,ms,gs,a,sW,n1,n5,db⟩:=fL;obtain⟨b_,OR,_⟩:=db v rfl
  cases hs with
  |nil=>exact absurd rfl cG
  | @cons c' c dP fs hc Nb Wv=>
    obtain⟨d,ds,Ww⟩:∃d ds,dP++[cc]=d::ds:=by cases dP with
     |nil=>exact⟨_,_,rfl⟩
     |cons d ds=>exact⟨_,_,rfl⟩
    obtain⟨T1,d1,Hi⟩:=N7 hO QL;have Zi:WR (yy m iR) (v.on T1 d1) (v.on T1 d1):=by
     have U:=hw.left (g:=iR) dJ;exact⟨U.inj,U.jj,rfl,rfl,rfl⟩
    have qG:FR Tw.prog spec (yy m iR) (Frame.enter Tw.prog Tw.gg #[x0,x1,x2] .normal) (Frame.enter Tw.prog Tw.gg #[x0,x1,x2] .normal):=
     FR.enter (P:=Tw.prog) (F:=Tw.prog.funcs) (m:=yy m iR) BS T4 T3 (vp.left dJ)
    have c7:Ends Tw.prog (bk Tw.prog (zf n a v)) (Frame.enter Tw.prog Tw.gg #[x0,x1,x2] .normal) [cc] (v.on T1 d1):=
     ends_of_calls (fun w h=>by obtain⟨_,h,_⟩:=h;cases h) fun T=>(db ((v.on T1 d1).on T 0) rfl).2.2
    obtain⟨y,v1,T2,d2,hR,QK⟩:=Hk (Q:=Tw.prog) (R:=R) (spec:=spec) (good:=iR) (Rf:=zf n a v) BS (fun {n f' f fs' fs v} rR he pC cG=>OQ (rR▸BS) wD (fun w h=>by obtain⟨_,h,_⟩:=h;cases h) (fun c w h=>by obtain⟨_,h,_⟩:=h;cases h) he pC cG) (fun w h=>by obtain⟨_,h,_⟩:=h;cases h) (fun c w h=>by obtain⟨_,h,_⟩:=h;cases h)
     (c:=fA x0 x1 x2) (cs:=c'::dP++[cc]) (by simp) c7 (fs':=[]) (m:=yy m iR) rfl rfl qG .nil Zi Hi.1
    have Wx:mY Tw.prog (bk Tw.prog R) (Frame.enter Tw.prog Tw.gg #[x0,x1,x2] .normal,fA x0 x1 x2::(c'::dP++[cc]),v.on T1 d1) ((fA x0 x1 x2).finish y,c'::dP++[cc],v1):=QK
    have NX:=Hi.trans Wx;obtain⟨Bk,hy,Zj,⟨cells,nT,eC,Zk⟩,hold,Zl⟩:=hR;have Zm:mY Tw.prog (bk Tw.prog R) ((fA x0 x1 x2).finish y,c'::dP++[cc],v1) (c'.finish y,dP++[cc],v1):=by
     have U:=NX.1;show mY _ _ (_,c'::(dP++[cc]),_) _
     rw[Ww];refine Lc hO ?_;rw[←Ww];exact U
    have Wy:=NX.trans Zm;have T5:lB Tw.prog (bk Tw.prog R) (Frame.enter Tw.prog cl #[x0,x1,x2] .normal,c'::dP++[cc],v) (c'.finish y,dP++[cc],v1):=by
     rcases Wy.2 with U|U
     ·have h2:=congrArg (fun z:Frame×List Frame×World=>z.2.1.length) U
      simp at h2
     ·exact U
    injection hy with hy
    subst hy;have Wz:x0= .slice (some ga) gl gc∧x1= .slice (some ⟨sb,so,none⟩) n sc∧x2= .int .i64 ms:=by
     have h0:=congrArg (fun z:Array Value=>z[0]?) sW
     have U:=congrArg (fun z:Array Value=>z[1]?) sW
     have h2:=congrArg (fun z:Array Value=>z[2]?) sW
     simp at h0 U h2
     exact⟨h0,U,h2⟩
    obtain⟨rfl,rfl,rfl⟩:=Wz;obtain⟨z0,z1,z2,rfl⟩:=Bx (us:=vs) (by rw[←vp.1];rfl)
    have OS:VR m (.slice (some ga) gl gc) z0:=vp.2 0 (by simp) (by simp)
    have vm:VR m (.slice (some ⟨sb,so,none⟩) n sc) z1:=vp.2 1 (by simp) (by simp)
    have xY:VR m (.int .i64 ms) z2:=vp.2 2 (by simp) (by simp)
    cases xY
    cases OS with
    | @slice _ OK _ _ Fx=>
      cases vm with
      | @slice _ q _ _ hq=>
        obtain⟨qb,qo,qs⟩:=q;obtain⟨OT,NB,_,WA⟩:=hq;dsimp only at OT NB WA
        subst NB WA;have aj:=(hw.lt OT).2;refine OG (a:=a) (gs:=gs) (ga:=OK) (gl:=gl) (gc:=gc) (sb:=qb) (so:=qo) (sc:=sc) (ms:=ms) (N:=w.heap.size) (n:=n) (c:=c) (cs:=fs) hM.ph rfl n1 n5 aj (hM.sh _ _ OT) (fun i hi=>?_) ?_ fun aQ w1 Zn=>?_
        ·obtain⟨y,Zo,Zp⟩:=(hw.cell (a:=⟨sb,qo+i,none⟩) (b:=⟨qb,qo+i,none⟩) ⟨OT,rfl,rfl,rfl⟩).1 _ (b_ i hi)
         cases Zp;exact Zo
        ·exact OL B wD OM Fw rfl hw rfl Fx hM.sh rfl rfl rfl n5 rfl (fun _ _=>rfl) OR
        ·
         obtain⟨Zq,WB,sz1,Sc,T6,cs2,WC,WD,WE⟩:=Zn;have Zr:m Bk=none:=hw.OJ Zj
         have OO:ao.le m (m.put Bk (w.heap.size+3)):=Bv Zr
         have zh:∀r t,m r=some t→r<v.heap.size∧t<w.heap.size:=fun r t h=>hw.lt h
         refine ih _ _ _ T5 Wy.1 (m:=m.put Bk (w.heap.size+3)) rfl rfl (.inl (hc.finish Nb OO (.slice n n ⟨Bw,rfl,rfl,rfl⟩))) (Wv.mono OO) ?_ ?_
         ·refine⟨fun r s t hr hs=>?_,fun r t hr=>?_,(WB.2.1.trans hw.os).trans Zl.symm,rfl,rfl⟩
          ·rcases ki hr with⟨U,h2⟩|U<;>rcases ki hs with⟨h3,h4⟩|h3
           ·omega
           ·exact absurd (zh _ _ h3).2 (by omega)
           ·exact absurd (zh _ _ U).2 (by omega)
           ·exact hw.inj r s t U h3
          ·rcases ki hr with⟨rfl,rfl⟩|U
           ·refine⟨_,_,nT,WC,.cells (Fz.refl _) ⟨eC.trans WD.symm,fun i U h2=>?_⟩⟩
            have hi:i<5*n:=by omega
            have e1:=Zk (i / 5) (i % 5) (by omega) (by omega)
            have e2:=WE (i / 5) (i % 5) (by omega) (by omega)
            rw[show 5*(i / 5)+i % 5=i from by omega]at e1 e2
            rw[Array.getElem?_eq_getElem U]at e1;rw[Array.getElem?_eq_getElem h2]at e2;rw[Option.some.inj e1,Option.some.inj e2];have h5:i % 5<5:=by omega
            generalize i % 5=c at h5;obtain rfl|rfl|rfl|rfl|rfl:c=0∨c=1∨c=2∨c=3∨c=4:=by omega
            ·exact .int _ _
            ·exact .int _ _
            ·exact .int _ _
            ·exact .bool _
            ·exact .bool _
           ·obtain⟨o,p,h2,h3,h4⟩:=hw.jj r t U
            have lU:v.heap[r]?=some o:=h2
            refine⟨o,p,?_,?_,h4.mono OO⟩
            ·show v1.heap[r]?=some o
             rw[←lU];exact hold r (zh _ _ U).1
            ·rw[Sc t (zh _ _ U).2 (hM.sh _ _ U)]
             exact h3
         ·refine⟨Zq,fun r t hr hs=>?_,fun b hb=>?_,fun t ht=>?_,fun r t hr ht=>?_,hM.same.trans WB,by have:=hM.size;omega,fun b hb=>?_⟩
          ·rcases(T6 t).1 hs with U|U
           ·rcases ki hr with⟨_,h2⟩|h2
            ·have:=hM.cT _ U
             omega
            ·exact hM.sh _ _ h2 U
           ·rcases ki hr with⟨_,h2⟩|h2
            ·omega
            ·have:=(zh _ _ h2).2;omega
          ·rcases(T6 b).1 hb with U|U
           ·exact hM.Rh b U
           ·have:=hM.size;omega
          ·rw[Sc t (by have:=hM.size;omega) (fun hs=>by have:=hM.Rh t hs;omega)]
           exact hM.old t ht
          ·rcases ki hr with⟨_,h2⟩|h2
           ·have:=hM.size;omega
           ·exact(hM.ku r t h2 ht).same (hold r (zh _ _ h2).1)
          ·rcases(T6 b).1 hb with U|U
           ·have:=hM.cT b U;omega
           ·omega
end
end Go.Proofs.YtjklkppncmhehaaGreat.Sr
namespace Go.Proofs.YtjklkppncmhehaaGreat.Sr
open Go Go.Conc Go.ConcN Go.RowKit
def Ri:Gh:={ow:=fun _ _=>False,ro:=fun _ _=>False,sh:=fun _=>False,st:=fun _=> .off,wm:= .op,ph:=none,extra:=0,j:=0}
theorem Zs (W:World):JJ Ri W #[] 0:=by
 refine⟨TJ.init _ _,⟨fun _ _ _ h=>h.elim,fun _ _ _ h=>h.elim,fun _ _ h=>h.elim,fun _ _ h=>h.elim,fun p hp=>(by cases hp)⟩,rfl,fun _ _ h=>h.elim,fun _ _ h=>h.elim,fun _ h=>h.elim,fun _=>⟨fun _ _=>⟨fun h=>h,fun h=>h⟩,fun _=>rfl,rfl⟩,fun p hp=>(by cases hp),fun p hp=>(by cases hp)⟩
def T7 (e:Ending)(w:World):Prop:=∃us,e= .panicked [{v:=lC us,recovered:=false}]∧wE us w.heap
def rS (e:Ending)(w:World):Prop:=e= .returned (.bool true)∨T7 e w
theorem L4 {us vs:Array Value}(h:lC us=lC vs):us=vs:=by
 unfold lC at h;injection h with _ h
 injection h with _ h _
theorem th (w:World):¬rS .outgrown w:=by
 rintro(h|⟨_,h,_⟩)<;>cases h
theorem FA (x:Value)(w:World)(hp:Plain qH (.panic x)):¬rS (.panicked [{v:=x,recovered:=false}]) w:=by
 rintro(h|⟨us,h,_⟩)
 ·cases h
 ·injection h with h
  injection h with h _
  injection h with h _
  exact hp _ h
theorem L5 (us:Array Value)(w:World)(h:rS (.panicked [{v:=lC us,recovered:=false}]) w):wE us w.heap:=by
 rcases h with h|⟨vs,h,hk⟩
 ·cases h
 ·injection h with h
  injection h with h _
  injection h with h _
  rw[L4 h];exact hk
theorem L6 {Q:Program}{fn:FuncId}{fr:Func}{t:Array Value}{todo:List Item}{w w1:World}{x:Value}{es:Array Event}(hf:Q.funcs[fn]?=some fr)(hi:Q.inits.idxOf? fn=none)(h:(results fr t).runT Q w #[]=(.ok x w1,es)):
  stepG Q true (G (aA fn t todo .returning) []) w= .ended (.done x) w1 (seen Q fn es):=by
 simp only[G,aA,stepG,unwind,hf,h,doReturn,hi,GStep.after,Array.append_empty,Bool.not_true,Bool.false_eq_true,if_false]
def JG (W:World)(γ:Gh)(w:World)(t:Trace)(j:Nat)(o:Outcome)(w1:World):Prop:=
 o= .done (.bool true)∧γ.ph=none∧(∃B,TJ γ B t j)∧(∀k,Gh.cV γ k)∧Below W.heap.size W w1
section
variable {spec good iR:FuncId→Bool}
theorem L7 (B:fV qH Tryz.prog Tw.prog.funcs spec good)(wD:∀f,spec f=true→f=cl)(OM:spec 121=false)(Fw:good 121=true)
  (BS:fV qH Tw.prog Tw.prog.funcs spec iR) (T3:spec Tw.gg=false) (dJ:∀f,good f=true→dk f=none→iR f=true) (T4:iR Tw.gg=true) (c7:∀f,good f=true→Tryz.prog.inits.idxOf? f=none)
  {f:FuncId} {us vs:Array Value} {m:ao} {v W:World} (FB:good f=true) (OU:spec f=false) (ON:m.good=good) (vp:AR m us vs) (hw:WR m (v.on W.tape W.drawn) W) (pA:∀r t,m r=some t→di v r)
  (FC:∀T,Calls Tw.prog f us (v.on T 0) rS):
  ∃M last o w' t',runNT Tryz.prog (M+1) (solo (G (Frame.enter Tryz.prog f vs .normal) []) W) #[]=(.ended o w',t')∧runN Tryz.prog M (solo (G (Frame.enter Tryz.prog f vs .normal) []) W)= .next last∧step Tryz.prog last= .ended o w'∧
   Go.Conc.Good Tryz.prog (fun x W'=>x= .bool true∧Below W.heap.size W W') last o w' t':=by
 subst ON;have hE:Ends Tw.prog (bk Tw.prog rS) (Frame.enter Tw.prog f us .normal) [cc] v:=ends_of_calls th FC
 have Zt:MI W.heap.size m v W Ri W:=⟨rfl,fun _ _ _ h=>h,fun _ h=>h.elim,fun _ _=>rfl,fun r t hr _=>pA r t hr,⟨rfl,rfl,rfl⟩,Nat.le_refl _,fun _ h=>h.elim⟩
 have Zu:MP (sys Tryz.prog) (JG W) false 0 Ri W (G (Frame.enter Tryz.prog f vs .normal) []):=by
  refine L3 (R:=rS) (N0:=W.heap.size) (w0:=W) (Q:=JG W) B wD OM Fw BS T3 dJ T4 th FA L5 ?_ hE (fs':=[]) (fs:=[]) (m:=m) rfl rfl (.inl (FR.enter B FB OU vp)) .nil hw Zt;intro γ w t j n f' f0 v1 hJ hd hM OV aF hf hl Zv;have B1:fV qH Tryz.prog Tw.prog.funcs spec n.good:=OV▸B
  obtain⟨x,T',d',r1,r2⟩:=sY B1 th Zv hf aF hl;have hx:x= .bool true:=by
   rcases r1 with h|⟨_,h,_⟩
   ·injection h
   ·cases h
  subst hx
  cases hf with
  | @mk fn aT tm todo mode eF a_ ha ok hm=>
    obtain rfl:mode= .returning:=hl
    obtain⟨fr,e1,e2,e3⟩:=B1.same fn a_ eF;have jD:=gJ (F:=Tw.prog.funcs) (m:=n) B.rt fr ha;obtain⟨_,_,_,NY,q1,q2⟩:=r2;have uJ:Tw.prog.funcs[fn]?=some NY:=q1
    rw[e1]at uJ;obtain rfl:=Option.some.inj uJ
    have NZ:WR n (v1.on T' d') (w.on T' d'):=⟨aF.inj,aF.jj,aF.os,rfl,rfl⟩
    obtain⟨zU,hr⟩:=oz (jD.sf NZ) q2 w.tape w.drawn;obtain⟨n2,y,w2,Zw,iw,g1,g2,g3,g4,g5,g6⟩:=jD.run (fs:= #[]) aF hr;obtain⟨G2,u1,u2,u3⟩:=jD.writes aF hr;have sW:Zw=G2:=by
     have:=g2.symm.trans u1
     simpa using this
    subst sW;have CB:mO n2 (v1.on w.tape w.drawn) (seen Tryz.prog fn (#[]++iw.toArray)):=mO.of g3 u2
    obtain⟨s1,s2⟩:=zg (fn:=fn) (pos:=(aA fn tm todo .returning).place) hM hJ g6 g5 CB;have IH:=hM.step hJ g6
    cases g4;refine⟨_,_,_,L6 e2 (c7 fn (OV▸a_)) g1,rfl,IH.ph,⟨_,s1.tj⟩,fun k=>?_,⟨IH.same.2.1,IH.same.1,IH.same.2.2,IH.size,fun b hb=>IH.old b hb⟩⟩
    obtain⟨_,x2,x3⟩:=s1.none IH.ph;exact⟨x2 k,by rw[x3];exact nofun,by rw[x3];exact nofun⟩
 obtain⟨ρ,ff⟩:=Zu.uW;have WG:vJ (sys Tryz.prog) (JG W) (crowd #[G (Frame.enter Tryz.prog f vs .normal) []] W none) #[]:=
  St.runs (S:=sys Tryz.prog) (Q:=JG W) (Tr.acc ρ) 0 (fun _=> .nat 0) true _ _ _ _ Ri false _ ⟨rfl,Zs W,ff,rfl,fun h=>(by cases h),fun k k1 k2=>absurd k2 (by omega)⟩
 obtain⟨M,dP,w',x_,t',af,w2,j',o,w1,ops,U,h2,⟨q1,q2,⟨Bq,q3⟩,q4,q5⟩,h4,h5,h6⟩:=WG;have iM:runNT Tryz.prog M (solo (G (Frame.enter Tryz.prog f vs .normal) []) W) #[]=(.next (crowd dP w' x_),t'):=U
 refine⟨M,crowd dP w' x_,o,w1,t'++ops,?_,?_,?_,.bool true,q1,⟨rfl,q5⟩,q3.ct.nr,fun i g hg hn hc=>?_,⟨fun g hg=>?_,rfl⟩,fun i g hi hn=>?_⟩
 ·rw[runNT_add,iM]
  simp only[runNT,h2]
 ·rw[←runNT_fst _ _ _ #[],iM]
 ·show(stepT Tryz.prog _).1=_
  rw[h2]
 ·rcases q3.over i g hg hn hc with h|⟨p,hp,_⟩
  ·exact h
  ·rw[q2]at hp;cases hp
 ·obtain⟨i,hi,rfl⟩:=List.getElem_of_mem hg
  have eE:i+1<dP.size:=by simp[crowd]at hi;omega
  obtain⟨x,T8,KZ⟩:=h6 (i+1) (by omega) (by omega)
  obtain⟨n,hn⟩:=KZ (q4 _);have:((crowd dP w' x_).gs.toList.drop 1)[i]=x:=by
   have e:dP[i+1]?=some x:=T8
   rw[Array.getElem?_eq_getElem eE]at e;simp only[List.getElem_drop,crowd];have e2:=Option.some.inj e;simp only[Array.getElem_toList,Nat.add_comm 1 i];exact e2
  rw[this];exact⟨n,hn.leaves⟩
 ·have eE:i<dP.size:=(Array.getElem?_eq_some_iff.1 hi).1
  obtain⟨x,T8,KZ⟩:=h6 i (by omega) (by omega)
  obtain⟨n,eO⟩:=KZ (q4 _);have Rj:dP[i]?=some g:=hi
  rw[T8]at Rj;obtain rfl:=Option.some.inj Rj
  exact⟨n,eO.hears _⟩
end
end Go.Proofs.YtjklkppncmhehaaGreat.Sr
namespace Go.Proofs.YtjklkppncmhehaaGreat.Sr
open Go Go.Conc Go.RowKit
theorem oE:∀y:Value,∃x,(∀m:ao,VR m x y)∧∀k z,y= .int k z→x=y
 | .agg cs=>by
   have h:∀i (hi:i<cs.size),∃x,∀m:ao,VR m x cs[i]:=fun i hi=>(oE cs[i]).imp fun _ h=>h.1
   let us:Array Value:=Array.ofFn fun i:Fin cs.size=>(h i.1 i.2).choose
   refine⟨.agg us,fun m=> .agg (by simp[us]) fun i U h2=>?_,fun k z e=>by cases e⟩
   simp only[us,Array.getElem_ofFn];exact(h i h2).choose_spec m
 | .tuple cs=>by
   have h:∀i (hi:i<cs.size),∃x,∀m:ao,VR m x cs[i]:=fun i hi=>(oE cs[i]).imp fun _ h=>h.1
   let us:Array Value:=Array.ofFn fun i:Fin cs.size=>(h i.1 i.2).choose
   refine⟨.tuple us,fun m=> .tuple (by simp[us]) fun i U h2=>?_,fun k z e=>by cases e⟩
   simp only[us,Array.getElem_ofFn];exact(h i h2).choose_spec m
 | .int k z=>⟨.int k z,fun _=> .int k z,fun _ _ _=>rfl⟩
 | .bool b=>⟨.bool b,fun _=> .bool b,fun _ _ e=>by cases e⟩
 | .nilIface=>⟨.nilIface,fun _=> .nilIface,fun _ _ e=>by cases e⟩
 | .float a b=>⟨.nilFunc,fun _=> .eU _ (fun _=>⟨fun e=>(by cases e),fun e=>(by cases e)⟩) ⟨fun e=>(by cases e),fun _ e=>(by cases e)⟩,fun _ _ e=>by cases e⟩
 | .complex a b c=>⟨.nilFunc,fun _=> .eU _ (fun _=>⟨fun e=>(by cases e),fun e=>(by cases e)⟩) ⟨fun e=>(by cases e),fun _ e=>(by cases e)⟩,fun _ _ e=>by cases e⟩
 | .string s=>⟨.nilFunc,fun _=> .eU _ (fun _=>⟨fun e=>(by cases e),fun e=>(by cases e)⟩) ⟨fun e=>(by cases e),fun _ e=>(by cases e)⟩,fun _ _ e=>by cases e⟩
 | .pointer a=>⟨.nilFunc,fun _=> .eU _ (fun _=>⟨fun e=>(by cases e),fun e=>(by cases e)⟩) ⟨fun e=>(by cases e),fun _ e=>(by cases e)⟩,fun _ _ e=>by cases e⟩
 | .slice a l c=>⟨.nilFunc,fun _=> .eU _ (fun _=>⟨fun e=>(by cases e),fun e=>(by cases e)⟩) ⟨fun e=>(by cases e),fun _ e=>(by cases e)⟩,fun _ _ e=>by cases e⟩
 | .map r=>⟨.nilFunc,fun _=> .eU _ (fun _=>⟨fun e=>(by cases e),fun e=>(by cases e)⟩) ⟨fun e=>(by cases e),fun _ e=>(by cases e)⟩,fun _ _ e=>by cases e⟩
 | .chan r=>⟨.nilFunc,fun _=> .eU _ (fun _=>⟨fun e=>(by cases e),fun e=>(by cases e)⟩) ⟨fun e=>(by cases e),fun _ e=>(by cases e)⟩,fun _ _ e=>by cases e⟩
 | .func f a b=>⟨.nilFunc,fun _=> .eU _ (fun _=>⟨fun e=>(by cases e),fun e=>(by cases e)⟩) ⟨fun e=>(by cases e),fun _ e=>(by cases e)⟩,fun _ _ e=>by cases e⟩
 | .nilFunc=>⟨.nilFunc,fun _=> .nilFunc,fun _ _ e=>by cases e⟩
 | .iface t v=>⟨.nilFunc,fun _=> .eU _ (fun _=>⟨fun e=>(by cases e),fun e=>(by cases e)⟩) ⟨fun e=>(by cases e),fun _ e=>(by cases e)⟩,fun _ _ e=>by cases e⟩
termination_by y=>SizeOf.sizeOf y
decreasing_by
 all_goals
  have:=Array.sizeOf_getElem cs i hi
  simp
  omega
noncomputable def II (y:Value):Value:=(oE y).choose
theorem L8 (m:ao)(y:Value):VR m (II y) y:=(oE y).choose_spec.1 m
theorem IJ (k:IntKind)(z:Int):II (.int k z)= .int k z:=(oE (.int k z)).choose_spec.2 k z rfl
noncomputable def Bz:Obj→Obj
 | .cells cs e fz=> .cells (cs.map II) e (0,max cs.size fz.2)
 |o=>o
open Classical in
theorem IK (good:FuncId→Bool)(W:World)(S:Nat→Prop)(hS:∀b,S b→∃cs e fz,W.heap[b]?=some (.cells cs e fz)):
  ∃(v:World) (m:ao),m.good=good∧(∀b,S b→m b=some b)∧WR m (v.on W.tape W.drawn) W∧(∀r t,m r=some t→di v r)∧(∀q k z,W.cell? q=some (.int k z)→v.cell? q=some (.int k z))∧v.heap.size=W.heap.size:=by
 let v:World:={W with heap:=W.heap.mapIdx fun i o=>if S i then Bz o else o}
 let m:ao:=⟨fun r=>if S r then some r else none,good⟩
 have hm:∀{r t},m r=some t→r=t∧S r:=by
  intro r t h;have h':(if S r then some r else none)=some t:=h
  by_cases hs:S r
  ·rw[if_pos hs]at h';exact⟨Option.some.inj h',hs⟩
  ·rw[if_neg hs]at h';cases h'
 have hv:∀b,v.heap[b]?=(W.heap[b]?).map fun o=>if S b then Bz o else o:=by
  intro b;show(W.heap.mapIdx fun i o=>if S i then Bz o else o)[b]?=_
  simp
 refine⟨v,m,rfl,fun b hb=>?_,⟨fun r s t hr hs=>(hm hr).1.trans (hm hs).1.symm,fun r t hr=>?_,rfl,rfl,rfl⟩,fun r t hr=>?_,fun q k z hq=>?_,?_⟩
 ·show(if S b then some b else none)=some b
  rw[if_pos hb]
 ·obtain⟨rfl,hs⟩:=hm hr
  obtain⟨cs,e,fz,U⟩:=hS r hs;refine⟨_,_,(by show v.heap[r]?=_;rw[hv,U];simp only[Option.map_some,if_pos hs];rfl),U,.cells (fun o U h2=>⟨Nat.zero_le _,by show o<max cs.size fz.2;omega⟩) ⟨by simp,fun i U h2=>?_⟩⟩
  simp only[Array.getElem_map];exact L8 m _
 ·obtain⟨rfl,hs⟩:=hm hr
  obtain⟨cs,e,fz,U⟩:=hS r hs;refine .inl ⟨_,e,_,(by rw[hv,U];simp only[Option.map_some,if_pos hs];rfl),?_⟩
  simp
  omega
 ·unfold World.cell? at hq⊢
  rw[hv]
  cases ho:W.heap[q.block]? with
  |none=>rw[ho]at hq;cases hq
  |some o=>
   rw[ho]at hq;by_cases hs:S q.block
   ·simp only[Option.map_some,if_pos hs]
    cases o with
    |cells cs e fz=>
     simp only[Bz]at hq⊢;by_cases eF:q.spot.isSome
     ·rw[if_pos eF]at hq;cases hq
     ·rw[if_neg eF]at hq⊢
      rw[Array.getElem?_map,hq];simp[IJ]
    |_=>cases hq
   ·simp only[Option.map_some,if_neg hs]
    exact hq
 ·show(W.heap.mapIdx _).size=_
  simp
end Go.Proofs.YtjklkppncmhehaaGreat.Sr
namespace Go.Proofs.YtjklkppncmhehaaGreat.Sr
open Go Go.Conc
def lY (f:FuncId):Bool:=Tw.qt.contains f
def qK (f:FuncId):Bool:=Tw.qt.contains f||f==Tw.gg
def qL (f:FuncId):Bool:=f==cl
theorem qM {f:FuncId}(h:lY f=true):f∈Tw.qt:=by simpa[lY]using h
def FD (P:Program)(good:FuncId→Bool)(f:FuncId):Bool:=match P.funcs[f]? with
 |some fn=>lr P good fn&&fn.name != "runtime.NumGoroutine"
 |none=>false
set_option maxRecDepth 100000
theorem Rk:(Tw.qt.filter (·!=cl)).all (FD Tryz.prog lY)=true:=by kernel_rfl
theorem OW:(Tw.qt.filter (·!=cl)).all (FD Tw.prog qK)=true:=by kernel_rfl
theorem Rl:FD Tw.prog qK Tw.gg=true:=by kernel_rfl
theorem OX:(Tryz.prog.funcs[cl]?).any (fun fn=>fn.body.isSome&&fn.name != "runtime.NumGoroutine")=true:=by kernel_rfl
theorem FE:(Tw.prog.funcs[cl]?).any (fun fn=>fn.body.isSome&&fn.name != "runtime.NumGoroutine")=true:=by kernel_rfl
theorem OY:Tw.qt.all (fun f=>(Tryz.prog.inits.idxOf? f).isNone)=true:=by kernel_rfl
theorem FF {f:FuncId}(h:f≠cl){fn:Func}(hf:Tryz.prog.funcs[f]?=some fn):Tw.prog.funcs[f]?=some fn:=by
 have aj:f<Tryz.funcs.size:=(Array.getElem?_eq_some_iff.1 hf).1
 show((Tryz.funcs.setIfInBounds cl Tw.Cl).push Tw.Js)[f]?=some fn
 rw[Array.getElem?_push,if_neg (by rw[Array.size_setIfInBounds];exact Nat.ne_of_lt aj),Array.getElem?_setIfInBounds,if_neg (fun e=>h e.symm)]
 exact hf
theorem qN {P:Program}{good:FuncId→Bool}{f:FuncId}(h:FD P good f=true):∃fn,P.funcs[f]?=some fn∧lr P good fn=true∧fn.body.isSome=true∧fn.name≠ "runtime.NumGoroutine":=by
 unfold FD at h
 cases hf:P.funcs[f]? with
 |none=>rw[hf]at h;cases h
 |some fn=>
  rw[hf]at h;simp only[Bool.and_eq_true,bne_iff_ne,ne_eq]at h;refine⟨fn,rfl,h.1,?_,h.2⟩;have:=h.1
  unfold lr at this
  cases hb:fn.body with
  |none=>rw[hb]at this;cases this
  |some c=>rfl
theorem ti {P:Program}{f:FuncId}(h:(P.funcs[f]?).any (fun fn=>fn.body.isSome&&fn.name != "runtime.NumGoroutine")=true):∃fn,P.funcs[f]?=some fn∧fn.body.isSome=true∧fn.name≠ "runtime.NumGoroutine":=by
 cases hf:P.funcs[f]? with
 |none=>rw[hf]at h;cases h
 |some fn=>
  rw[hf]at h;simp only[Option.any_some,Bool.and_eq_true,bne_iff_ne,ne_eq]at h;exact⟨fn,rfl,h.1,h.2⟩
theorem T9:fo qH Tryz.prog:=⟨by decide+kernel,by decide+kernel,by decide+kernel,by decide+kernel⟩
theorem IL:fV qH Tryz.prog Tw.prog.funcs qL lY:=by
 have ok:∀f,lY f=true→f≠cl→∃fn,Tryz.prog.funcs[f]?=some fn∧lr Tryz.prog lY fn=true∧fn.body.isSome=true∧fn.name≠ "runtime.NumGoroutine":=fun f hf hn=>
  qN (List.all_eq_true.1 Rk f (List.mem_filter.2 ⟨qM hf,by simpa using hn⟩))
 refine⟨T9,Tryz.globals_size,fun f hf=>?_,⟨fun f hf=>?_⟩,fun f hf hs=>?_⟩
 ·have:f=55:=by simpa[vd]using hf
  subst this;exact⟨by decide+kernel,by decide+kernel⟩
 ·by_cases hn:f=cl
  ·subst hn
   obtain⟨a,a1,a2,a3⟩:=ti FE;obtain⟨b,b1,b2,b3⟩:=ti OX;exact⟨a,b,a1,b1,a2,b2,a3,b3⟩
  ·obtain⟨fn,U,_,h2,h3⟩:=ok f hf hn
   exact⟨fn,fn,FF hn U,U,h2,h2,h3,h3⟩
 ·have hn:f≠cl:=by simpa[qL]using hs
  obtain⟨fn,U,h2,_⟩:=ok f hf hn;exact⟨fn,FF hn U,U,h2⟩
theorem Rm:fo qH Tw.prog:=⟨by decide+kernel,by decide+kernel,by decide+kernel,by decide+kernel⟩
theorem IM:fV qH Tw.prog Tw.prog.funcs qL qK:=by
 have ok:∀f,qK f=true→f≠cl→∃fn,Tw.prog.funcs[f]?=some fn∧lr Tw.prog qK fn=true∧fn.body.isSome=true∧fn.name≠ "runtime.NumGoroutine":=fun f hf hn=>by
  by_cases hs:f=Tw.gg
  ·subst hs;exact qN Rl
  ·have h:f∈Tw.qt:=by
    simp only[qK,Bool.or_eq_true,List.contains_eq_mem,decide_eq_true_eq,beq_iff_eq]at hf;exact hf.resolve_right hs
   exact qN (List.all_eq_true.1 OW f (List.mem_filter.2 ⟨h,by simpa using hn⟩))
 refine⟨Rm,Tryz.globals_size,fun f hf=>?_,⟨fun f hf=>?_⟩,fun f hf hs=>?_⟩
 ·have:f=55:=by simpa[vd]using hf
  subst this;exact⟨by decide+kernel,by decide+kernel⟩
 ·by_cases hn:f=cl
  ·subst hn
   obtain⟨a,a1,a2,a3⟩:=ti FE;exact⟨a,a,a1,a1,a2,a2,a3,a3⟩
  ·obtain⟨fn,U,_,h2,h3⟩:=ok f hf hn
   exact⟨fn,fn,U,U,h2,h2,h3,h3⟩
 ·have hn:f≠cl:=by simpa[qL]using hs
  obtain⟨fn,U,h2,_⟩:=ok f hf hn;exact⟨fn,U,U,h2⟩
theorem L9 {f:FuncId}{us vs:Array Value}{m:ao}{v W:World}(FB:lY f=true)(OU:qL f=false)(ON:m.good=lY)(vp:AR m us vs)(hw:WR m (v.on W.tape W.drawn) W)(pA:∀r t,m r=some t→di v r)
  (FC:∀T,Calls Tw.prog f us (v.on T 0) rS):
  ∃M last o w' t',runNT Tryz.prog (M+1) (solo (G (Frame.enter Tryz.prog f vs .normal) []) W) #[]=(.ended o w',t')∧runN Tryz.prog M (solo (G (Frame.enter Tryz.prog f vs .normal) []) W)= .next last∧step Tryz.prog last= .ended o w'∧
   Go.Conc.Good Tryz.prog (fun x W'=>x= .bool true∧Go.RowKit.Below W.heap.size W W') last o w' t':=
 L7 IL (fun f h=>by simpa[qL]using h) (by decide+kernel) (by decide+kernel) IM (by decide+kernel) (fun f h hs=>by
  simp only[qK,Bool.or_eq_true,List.contains_eq_mem,decide_eq_true_eq];exact .inl (qM h)) (by decide+kernel) (fun f h=>by
  have:=List.all_eq_true.1 OY f (qM h)
  simpa using this) FB OU ON vp hw pA FC
end Go.Proofs.YtjklkppncmhehaaGreat.Sr
