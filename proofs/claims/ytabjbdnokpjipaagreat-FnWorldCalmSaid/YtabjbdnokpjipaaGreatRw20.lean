/-
What is proved: the starter's way through Wait. Conditions: as stated.
-/
import Derived.Test.YtabjbdnokpjipaaGreatRw16
import Derived.Test.YtabjbdnokpjipaaGreatRw19
set_option linter.unusedVariables false
set_option linter.unusedSimpArgs false
namespace Go.Proofs.YtabjbdnokpjipaaGreat.Sr
open Go Go.Conc Go.ConcN
section
variable {P:Program}{Q:Gh→World→Trace→Nat→Outcome→World→Prop}{γ:Gh}{w:World}
structure oz (γ:Gh) (p:Ph) (n0:Nat):Prop where
 ph:γ.ph=some p
 wm:γ.wm≠.op
 extra:γ.extra=0
 j:γ.j=n0
theorem oz.rely {γ ai:Gh}{w w':World}{p:Ph}{n0:Nat}(h:oz γ p n0)(r:RM γ w ai w'):oz ai p n0:=by
 obtain⟨_,a,_,b,c⟩:=r.gh;exact⟨a.trans h.ph,fun e=>h.wm (r.wm.2 e),b.trans h.extra,c.trans h.j⟩
theorem nB {γ ai:Gh}{w w':World}{p:Ph}{n0:Nat}(h:jK γ p 0 n0)(r:RM γ w ai w'):ai.v p≤γ.v p:=by
 have h1:=r.le p h.ph;obtain⟨_,_,_,b,c⟩:=r.gh;unfold Gh.v;rw[b,c];omega
theorem pq {t:Trace}{j:Nat}{fn:FuncId}{pos:String}{e0:Event}(hJ:JJ γ w t j)(h:vk γ j w.heap.size e0):JJ γ w (t++MemOp.ofEvents 0 fn pos #[e0]) j∧∀k',k'≠0→RR k' γ w γ w:=
 tN hJ fun e he=>by simp at he;subst he;exact h
theorem JJ.nil {t:Trace}{j:Nat}{fn:FuncId}{pos:String}(hJ:JJ γ w t j):JJ γ w (t++MemOp.ofEvents 0 fn pos #[]) j:=by
 rw[G_,Array.append_empty];exact hJ
def CE (p:Ph)(n0:Nat)(w:World):Prop:=∃cs,w.heap[p.A]?=some (.cells cs p.eA)∧cs.size=5*p.n∧∀i c,i<n0-p.j0→c<5→cs[5*i+c]?=some (p.o8 i c)
theorem FE {g2 g3 g4 gR:Goroutine}{n:Nat}{eW:TypeId}{p:Ph}{n0:Nat}
  (v2:bF P undef (some (eW,2)) g2=some ⟨g3,#[],[],[p.wg,p.wg],none⟩) (q3:cn P g3=some (g4,#[ff (.acquire ⟨p.wg,0,none⟩)])) (m4:mute P (n+1) g4=true) (a4:aR P (n+1) g4=gR)
  (he:p.eW=eW) (hA:jK γ p 0 n0) (hv:γ.v p=0) (K:∀γ1 w1 ai w',Mv γ w γ1 w1→CE p n0 w1→RM γ1.idle w1 ai w'→MP (sys P) Q false 0 ai w' gR):MP (sys P) Q false 0 γ w g2:=by
 refine .vm (vS v2).1 fun γ1 w1 t1 j1 h1 lG wG=>?_;have A1:=hA.rely h1;have x1:=lG.phase p A1.ph;have z1:γ1.v p=0:=by have:=nB hA h1;omega
 refine⟨_,_,_,γ1,false,v2,fun a ha=>(by cases ha),fun r hr=>?_,lG.nil,fun k' _=>(sys P).refl k' γ1 w1,?_⟩
 ·have:p.wg=r:=Rw hr
  rw[←this,←he];exact qi x1.wg
 refine .said q3 fun dM w2 t2 j2 h2 pS zg=>?_;have A2:=A1.rely h2;have z2:dM.v p=0:=by have:=nB A1 h2;omega
 have ac3:Deaf t2 0=0:=zg
 obtain⟨r1,r2,r3⟩:=Z' (fn:=g3.frame.fn) (pos:=g3.frame.place) pS A2.ph A2.wm z2 ac3;refine⟨_,false,r1,r2,mS (n:=n) m4 fun nO w3 h3=>?_⟩
 rw[a4];refine K dM w2 nO w3 ((Mv.of h1).trans (Mv.of h2)) ?_ h3;obtain⟨cs,c1,c2,c3⟩:=r3;have ej:=pS.j;have ej':=A2.j;exact⟨cs,c1,c2,fun i c hi hc=>c3 i c (by omega) hc⟩
theorem tT {r1 r2 Xi r3 s1 w1g w1' w2g Ua w3 w4 w5 gR:Goroutine}{eW:TypeId}{p:Ph}{n0:Nat}
  (vr1:bF P undef (some (eW,2)) r1=some ⟨r2,#[],[],[p.wg,p.wg],none⟩) (qr2:cn P r2=some (Xi,#[ff (.write ⟨p.wg,1,none⟩)])) (mr2:mute P 23 Xi=true) (ar2:aR P 23 Xi=r3)
  (br3:mC P (.int .u32 0) r3=some [⟨p.wg,1,none⟩]) (vr3:bF P (.int .u32 1) none r3=some ⟨s1,#[ff .disable,cp ⟨p.wg,1,none⟩,fu ⟨p.wg,1,none⟩,ff .enable],[⟨p.wg,1,none⟩,⟨p.wg,1,none⟩],[],some (⟨p.wg,1,none⟩,.int .u32 0)⟩)
  (or3:r3.offers=none) (ms1:mute P 16 s1=true) (PA:aR P 16 s1=w1g) (vw1:bF P (.int .u64 0) none w1g=some ⟨w1',#[cp ⟨p.wg,0,none⟩],[⟨p.wg,0,none⟩],[],none⟩) (mw1:mute P 11 w1'=true) (aw1:aR P 11 w1'=w2g)
  (qw2:cn P w2g=some (Ua,#[ff .enable])) (mw2:mute P 3 Ua=true) (aw2:aR P 3 Ua=w3) (vw3:bF P undef (some (eW,2)) w3=some ⟨w4,#[],[],[p.wg,p.wg],none⟩) (qw4:cn P w4=some (w5,#[ff (.acquire ⟨p.wg,0,none⟩)])) (mw5:mute P 10 w5=true) (aw5:aR P 10 w5=gR)
  (he:p.eW=eW) (hA:oz γ p n0) (K:∀γ1 w1 ai w',Mv γ w γ1 w1→CE p n0 w1→RM γ1.idle w1 ai w'→MP (sys P) Q false 0 ai w' gR):MP (sys P) Q false 1 γ w r1:=by
 refine .vm (vS vr1).1 fun γ1 w1 t1 j1 h1 lG wG=>?_;have A1:=hA.rely h1;have x1:=lG.phase p A1.ph;refine⟨_,_,_,γ1,false,vr1,fun a ha=>(by cases ha),fun r hr=>?_,lG.nil,fun k' _=>(sys P).refl k' γ1 w1,?_⟩
 ·have:p.wg=r:=Rw hr
  rw[←this,←he];exact qi x1.wg
 refine .said qr2 fun dM w2 t2 j2 h2 pS zg=>?_;have A2:=A1.rely h2;have x2:=pS.phase p A2.ph;obtain⟨u1,u2⟩:=pq (fn:=r2.frame.fn) (pos:=r2.frame.place) pS (aal (o:=1) x2.sh (pS.dL _ x2.sh));refine⟨dM,false,u1,u2,?_⟩;have M2:=(Mv.of h1).trans (Mv.of h2);clear h1 lG wG A1 x1 u1 u2 h2 pS x2 zg;have aft:∀zh w5,jK zh p 0 n0→zh.v p=0→Mv γ w zh w5→MP (sys P) Q false 1 zh w5 s1:=by
  intro zh w5 A5 z5 M5;refine mS (n:=15) ms1 fun xG w6 h6=>?_;rw[PA];have A6:=A5.rely h6;have z6:xG.v p=0:=by have:=nB A5 h6;omega
  refine .vm (vS vw1).1 fun Em w7 t7 j7 h7 En hd7=>?_;have A7:=A6.rely h7;have x7:=En.phase p A7.ph;have z7:Em.v p=0:=by have:=nB A6 h7;omega
  have WU:=x7.wg;rw[A7.wm,z7]at WU;have ac4:w7.heap[p.wg]?=some (di p.eW 0 0):=by
   rw[WU];show some (di p.eW (((0:Nat):Int)*bW) 0)=_
   rw[Int.natCast_zero,Int.zero_mul]
  obtain⟨u1,u2⟩:=pq (fn:=w1g.frame.fn) (pos:=w1g.frame.place) En (uN (o:=0) x7.sh (En.dL _ x7.sh));refine⟨_,_,_,Em,false,vw1,fun a ha=>(Rv ha)▸kF ac4,fun r hr=>(by cases hr),u1,u2,?_⟩
  refine mS (n:=10) mw1 fun iz w8 h8=>?_;rw[aw1];have A8:=A7.rely h8;have z8:iz.v p=0:=by have:=nB A7 h8;omega
  refine .said qw2 fun WW w9 t9 j9 h9 hJ9 hd9=>?_;have A9:=A8.rely h9;have z9:WW.v p=0:=by have:=nB A8 h9;omega
  obtain⟨u3,u4⟩:=pq (fn:=w2g.frame.fn) (pos:=w2g.frame.place) hJ9 (gG (e:=ff .enable) rfl);refine⟨WW,false,u3,u4,mS (n:=2) mw2 fun ac5 w10 vq=>?_⟩
  rw[aw2];have A10:=A9.rely vq;have z10:ac5.v p=0:=by have:=nB A9 vq;omega
  refine FE vw3 qw4 (n:=9) mw5 aw5 he A10 z10 fun xN CF ai w' hM tU hR=>K xN CF ai w' ?_ tU hR
  exact(((((M5.trans (Mv.of h6)).trans (Mv.of h7)).trans (Mv.of h8)).trans (Mv.of h9)).trans (Mv.of vq)).trans hM
 have rest:∀nO w3,RM dM w2 nO w3→MP (sys P) Q true 1 nO w3 r3:=by
  intro nO w3g h3;have A3:=A2.rely h3;refine .mk (vS vr3).1 (fun _=>or3) (fun _ hY Xj t4 j4 h4 nP To hBl=>?_) fun hY Xj t4 j4 h4 nP To wE=>?_
  ·have A4:=A3.rely (jP h4)
   have x4:=nP.phase p A4.ph;have abf:hY.wm≠.rel:=hBl
   have fC:=x4.wg;have q_:Cs hY.wm=0:=by
    cases e:hY.wm with
    |rel=>exact absurd e abf
    |_=>rfl
   rw[q_]at fC;refine⟨Ep br3 Xj fun a ha=>?_,?_⟩
   ·have:a=⟨p.wg,1,none⟩:=by simpa using ha
    rw[this];exact(zf fC).1
   ·cases e:hY.wm with
    |rel=>exact absurd e abf
    |op=>exact absurd e A4.wm
    |reg=>
     obtain⟨e1,e2⟩:=x4.reg e;unfold Gh.v at e2;rw[e1]at e2;obtain⟨k,k1,k2,k3⟩:=JN (by simpa using e2)
     have WJ:=x4.j0;have ej:=nP.j;exact⟨k,by omega,by omega,fun hg=>k3 hg.1⟩
    |la k=>
     obtain⟨_,k1,k2,_⟩:=x4.la k (.inl e);have ej:=nP.j;exact⟨k,by omega,by omega,k_ e⟩
    |lb k=>
     obtain⟨_,k1,k2,_⟩:=x4.la k (.inr e);have ej:=nP.j;exact⟨k,by omega,by omega,tO e⟩
  ·have A4:=A3.rely (jP h4)
   have x4:=nP.phase p A4.ph;have hrel:hY.wm= .rel:=Classical.not_not.1 (wE rfl)
   have fC:=x4.wg;rw[hrel]at fC;obtain⟨TB,s2,s3⟩:=ab1 (w1:=Xj.setCell ⟨p.wg,1,none⟩ (.int .u32 0)) (fn:=r3.frame.fn) (pos:=r3.frame.place) (es:= #[ff .disable,cp ⟨p.wg,1,none⟩,fu ⟨p.wg,1,none⟩,ff .enable]) nP A4.ph hrel ⟨rfl,rfl,rfl⟩ cA kr (JP fC 0) fun e he=>by
    have hB:=nP.dL _ x4.sh;simp at he
    rcases he with rfl|rfl|rfl|rfl
    ·exact gG rfl
    ·exact uN x4.sh hB
    ·exact Hl x4.sh hB
    ·exact gG rfl
   refine⟨.go ⟨s1,_,_,_⟩ false,⟨(vS vr3).2 true Xj (fun a ha=>(JQ ha)▸zf fC) (fun r hr=>(by cases hr)),s2,s3⟩,fun x b' e=>?_,fun x b' e=>(by cases e)⟩
   cases e;have A5:jK (hY.gC hY.st .op) p 0 n0:=⟨A4.ph,rfl,A4.extra,A4.j⟩
   have M5:Mv γ w (hY.gC hY.st .op) (Xj.setCell ⟨p.wg,1,none⟩ (.int .u32 0)):=((M2.trans (Mv.of h3)).trans (Mv.of (jP h4))).trans (Hm _ x4.sh rfl rfl rfl rfl rfl)
   have z5:(hY.gC hY.st .op).v p=0:=TB
   exact aft _ _ A5 z5 M5
 refine MP.mute (n:=22) mr2 fun nO w3g h3=>⟨true,?_⟩
 rw[ar2];exact rest nO w3g (jP h3)
theorem Ub {T:Type}{g0 g1 g2 gR:Goroutine}{wlG l1:T→Goroutine}{l2:T→Nat→Goroutine}{c1:T→Nat→Goroutine}{c2:T→Nat→Bool→Goroutine}{eW:TypeId}{p:Ph}{n0:Nat}{tm0:T}
  (m0:mute P 3 g0=true) (a0:aR P 3 g0=g1) (q1:cn P g1=some (g2,#[ff .disable])) (m2:mute P 3 g2=true) (a2:aR P 3 g2=wlG tm0)
  (ml:∀tm,mute P 16 (wlG tm)=true) (al:∀tm,aR P 16 (wlG tm)=l1 tm)
  (vl:∀tm v,v≤5→bF P (.int .u64 (bo .op v)) none (l1 tm)=some ⟨l2 tm v,#[cp ⟨p.wg,0,none⟩],[⟨p.wg,0,none⟩],[],none⟩)
  (zero:∀tm,mute P 31 (l2 tm 0)=true∧∃Lm z2 z3 z4,cn P (aR P 31 (l2 tm 0))=some (Lm,#[ff .enable])∧mute P 3 Lm=true∧aR P 3 Lm=z2∧bF P undef (some (eW,2)) z2=some ⟨z3,#[],[],[p.wg,p.wg],none⟩∧
   cn P z3=some (z4,#[ff (.acquire ⟨p.wg,0,none⟩)])∧mute P 20 z4=true∧aR P 20 z4=gR)
  (mc:∀tm v,1≤v→v≤5→mute P 48 (l2 tm v)=true∧aR P 48 (l2 tm v)=c1 tm v)
  (ac6:∀tm v u,1≤v→v≤5→u<v→bF P (.int .u64 (bo .op u)) (some (eW,2)) (c1 tm v)=some ⟨c2 tm v false,#[cp ⟨p.wg,0,none⟩],[⟨p.wg,0,none⟩,⟨p.wg,0,none⟩],[p.wg],none⟩)
  (aap:∀tm v,1≤v→v≤5→mute P 9 (c2 tm v false)=true∧∃tm',aR P 9 (c2 tm v false)=wlG tm')
  (hit:∀tm v,1≤v→v≤5→bF P (.int .u64 (bo .op v)) (some (eW,2)) (c1 tm v)=some ⟨c2 tm v true,#[cp ⟨p.wg,0,none⟩,fu ⟨p.wg,0,none⟩],[⟨p.wg,0,none⟩,⟨p.wg,0,none⟩,⟨p.wg,0,none⟩],[p.wg],some (⟨p.wg,0,none⟩,.int .u64 (bo .reg v))⟩)
  (reg:∀tm v,1≤v→v≤5→mute P 19 (c2 tm v true)=true∧∀γ w,oz γ p n0→(∀γ1 w1 ai w',Mv γ w γ1 w1→CE p n0 w1→RM γ1.idle w1 ai w'→MP (sys P) Q false 0 ai w' gR)→MP (sys P) Q false 1 γ w (aR P 19 (c2 tm v true)))
  (he:p.eW=eW) (hA:jK γ p 0 n0) (K:∀γ1 w1 ai w',Mv γ w γ1 w1→CE p n0 w1→RM γ1.idle w1 ai w'→MP (sys P) Q false 0 ai w' gR):MP (sys P) Q false 0 γ w g0:=by
 have loop:∀(m:Nat) (γ:Gh) (w:World) (tm:T),jK γ p 0 n0→γ.v p≤m→m≤5→(∀γ1 w1 ai w',Mv γ w γ1 w1→CE p n0 w1→RM γ1.idle w1 ai w'→MP (sys P) Q false 0 ai w' gR)→MP (sys P) Q false 1 γ w (wlG tm):=by
  intro m;induction m using Nat.strongRecOn with
  |ind m ih=>
   intro γ w tm hA hm hm5 K;refine mS (n:=15) (ml tm) fun γ1 w1 h1=>?_;rw[al];have A1:=hA.rely h1;have e1:γ1.v p≤m:=Nat.le_trans (nB hA h1) hm
   refine .vm (vS (vl tm 0 (by omega))).1 fun dM w2 t2 j2 h2 pS zg=>?_
   have A2:=A1.rely h2;have x2:=pS.phase p A2.ph;have e2:dM.v p≤m:=Nat.le_trans (nB A1 h2) e1
   have cU:=x2.wg;rw[A2.wm]at cU;obtain⟨u1,u2⟩:=pq (fn:=(l1 tm).frame.fn) (pos:=(l1 tm).frame.place) pS (uN (o:=0) x2.sh (pS.dL _ x2.sh));refine⟨_,_,_,dM,false,vl tm (dM.v p) (by omega),fun a ha=>(Rv ha)▸kF cU,fun r hr=>(by cases hr),u1,u2,?_⟩
   have M2:=(Mv.of h1).trans (Mv.of h2);generalize hv:dM.v p=v at*;show MP (sys P) Q false 1 dM w2 (l2 tm v)
   rcases Nat.eq_zero_or_pos v with rfl|dK
   ·obtain⟨k1,Lm,z2,z3,z4,k2,k3,k4,k5,k6,k7,k8⟩:=zero tm
    refine mS (n:=30) k1 fun nO w3 h3=>?_;have A3:=A2.rely h3;have e3:nO.v p=0:=by have:=nB A2 h3;omega
    refine .said k2 fun hY w4 t4 j4 h4 nP To=>?_;have A4:=A3.rely h4;have e4:hY.v p=0:=by have:=nB A3 h4;omega
    obtain⟨u3,u4⟩:=pq (fn:=(aR P 31 (l2 tm 0)).frame.fn) (pos:=(aR P 31 (l2 tm 0)).frame.place) nP (gG (e:=ff .enable) rfl);refine⟨hY,false,u3,u4,mS (n:=2) k3 fun zh w5 h5=>?_⟩
    rw[k4];have A5:=A4.rely h5;have e5:zh.v p=0:=by have:=nB A4 h5;omega
    refine FE k5 k6 (n:=19) k7 k8 he A5 e5 fun xN CF ai w' hM tU hR=>K xN CF ai w' ?_ tU hR
    exact(((M2.trans (Mv.of h3)).trans (Mv.of h4)).trans (Mv.of h5)).trans hM
   ·obtain⟨k1,k2⟩:=mc tm v dK (by omega)
    refine mS (n:=47) k1 fun nO w3 h3=>?_;rw[k2];have A3:=A2.rely h3;have e3:nO.v p≤v:=by have:=nB A2 h3;omega
    refine .vm (vS (hit tm v dK (by omega))).1 fun hY w4 t4 j4 h4 nP To=>?_
    have A4:=A3.rely h4;have e4:hY.v p≤v:=by have:=nB A3 h4;omega
    have x4:=nP.phase p A4.ph;have fC:=x4.wg;rw[A4.wm]at fC;have hB:=nP.dL _ x4.sh;have M4:=(M2.trans (Mv.of h3)).trans (Mv.of h4);have tV:∀r∈[p.wg],w4.shape? r=some (eW,2):=fun r hr=>by
     have:p.wg=r:=(by simpa using hr:r=p.wg).symm
     rw[←this,←he];exact qi fC
    by_cases TB:hY.v p=v
    ·rw[TB]at fC
     obtain⟨s1,s2⟩:=ab0 (w1:=w4.setCell ⟨p.wg,0,none⟩ (.int .u64 (bo .reg v))) (fn:=(c1 tm v).frame.fn) (pos:=(c1 tm v).frame.place) (es:= #[cp ⟨p.wg,0,none⟩,fu ⟨p.wg,0,none⟩]) nP A4.ph A4.wm A4.extra (by omega) ⟨rfl,rfl,rfl⟩ cA kr (by rw[TB];exact xF fC _) fun e he=>by
      simp at he
      rcases he with rfl|rfl
      ·exact uN x4.sh hB
      ·exact Hl x4.sh hB
     refine⟨_,_,_,_,false,hit tm v dK (by omega),fun a ha=>?_,tV,s1,s2,?_⟩
     ·have:a=⟨p.wg,0,none⟩:=by simpa using ha
      rw[this];exact kF fC
     ·obtain⟨k3,k4⟩:=reg tm v dK (by omega)
      have A5:oz (hY.gC hY.st .reg) p n0:=⟨A4.ph,nofun,A4.extra,A4.j⟩
      have M5:Mv γ w (hY.gC hY.st .reg) (w4.setCell ⟨p.wg,0,none⟩ (.int .u64 (bo .reg v))):=M4.trans (Hm _ x4.sh rfl rfl rfl rfl rfl)
      refine mS (n:=18) k3 fun xG w6 h6=>?_;exact k4 xG w6 (A5.rely h6) fun xN CF ai w' hM tU hR=>K xN CF ai w' ((M5.trans (Mv.of h6)).trans hM) tU hR
    ·obtain⟨s1,s2⟩:=pq (fn:=(c1 tm v).frame.fn) (pos:=(c1 tm v).frame.place) nP (uN (o:=0) x4.sh hB)
     refine⟨_,_,_,hY,false,ac6 tm v (hY.v p) dK (by omega) (by omega),fun a ha=>(JQ ha)▸kF fC,tV,s1,s2,?_⟩
     obtain⟨k3,tm',k4⟩:=aap tm v dK (by omega)
     refine mS (n:=8) k3 fun zh w5 h5=>?_;rw[k4];refine ih (v-1) (by omega) zh w5 tm' (A4.rely h5) ?_ (by omega) fun xN CF ai w' hM tU hR=>K xN CF ai w' ((M4.trans (Mv.of h5)).trans hM) tU hR
     have:=nB A4 h5
     omega
 refine mS (n:=2) m0 fun γ1 w1 h1=>?_;rw[a0];have A1:=hA.rely h1;refine .said q1 fun dM w2 t2 j2 h2 pS zg=>?_;have A2:=A1.rely h2;have x2:=pS.phase p A2.ph;have Ei:dM.v p≤5:=by
  have h5:=BG (st:=dM.st) (j0:=p.j0) (m:=dM.j-p.j0);have h6:=x2.jn;have h7:=x2.n5;unfold Gh.v;omega
 obtain⟨r1,r2⟩:=pq (fn:=g1.frame.fn) (pos:=g1.frame.place) pS (gG (e:=ff .disable) rfl);refine⟨dM,false,r1,r2,mS (n:=2) m2 fun nO w3 h3=>?_⟩
 rw[a2];refine loop 5 nO w3 tm0 (A2.rely h3) (by have:=nB A2 h3;omega) (Nat.le_refl _) fun xN CF ai w' hM tU hR=>K xN CF ai w' ((((Mv.of h1).trans (Mv.of h2)).trans (Mv.of h3)).trans hM) tU hR
end
end Go.Proofs.YtabjbdnokpjipaaGreat.Sr
