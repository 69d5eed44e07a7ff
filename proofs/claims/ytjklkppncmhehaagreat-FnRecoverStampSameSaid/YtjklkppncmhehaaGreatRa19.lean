/-
What is proved: the starter's way through Wait ('wait_way'). Conditions: those that the theorem states.
-/
import Derived.Test.YtjklkppncmhehaaGreatRa15
import Derived.Test.YtjklkppncmhehaaGreatRa18
set_option linter.unusedVariables false
set_option linter.unusedSimpArgs false
namespace Go.Proofs.YtjklkppncmhehaaGreat.Sr
open Go Go.Conc Go.ConcN
section
variable {P:Program}{Q:Gh→World→Trace→Nat→Outcome→World→Prop}{γ:Gh}{w:World}
structure kJ (γ:Gh) (p:Ph) (n0:Nat):Prop where
 ph:γ.ph=some p
 wm:γ.wm≠.op
 extra:γ.extra=0
 j:γ.j=n0
theorem kJ.rely {γ af:Gh}{w w':World}{p:Ph}{n0:Nat}(h:kJ γ p n0)(r:RM γ w af w'):kJ af p n0:=by
 obtain⟨_,a,_,b,c⟩:=r.gh;exact⟨a.trans h.ph,fun e=>h.wm (r.wm.2 e),b.trans h.extra,c.trans h.j⟩
theorem jT {γ af:Gh}{w w':World}{p:Ph}{n0:Nat}(h:fW γ p 0 n0)(r:RM γ w af w'):af.v p≤γ.v p:=by
 have U:=r.le p h.ph;obtain⟨_,_,_,b,c⟩:=r.gh;unfold Gh.v;rw[b,c];omega
theorem lD {t:Trace}{j:Nat}{fn:FuncId}{pos:String}{e0:Event}(hJ:JJ γ w t j)(h:tb γ j w.heap.size e0):JJ γ w (t++MemOp.ofEvents 0 fn pos #[e0]) j∧∀k',k'≠0→RR k' γ w γ w:=
 rC hJ fun e he=>by simp at he;subst he;exact h
theorem JJ.nil {t:Trace}{j:Nat}{fn:FuncId}{pos:String}(hJ:JJ γ w t j):JJ γ w (t++MemOp.ofEvents 0 fn pos #[]) j:=by
 rw[Ai,Array.append_empty];exact hJ
def wy (p:Ph)(n0:Nat)(w:World):Prop:=∃cs,w.heap[p.A]?=some (.cells cs p.eA)∧cs.size=5*p.n∧∀i c,i<n0-p.j0→c<5→cs[5*i+c]?=some (p.lh i c)
theorem zd {g2 g3 g4 gR:Goroutine}{n:Nat}{eW:TypeId}{p:Ph}{n0:Nat}
  (v2:aZ P undef (some (eW,2)) g2=some ⟨g3,#[],[],[p.wg,p.wg],none⟩) (q3:bM P g3=some (g4,#[dj (.acquire ⟨p.wg,0,none⟩)])) (m4:mute P (n+1) g4=true) (a4:aE P (n+1) g4=gR)
  (he:p.eW=eW) (hA:fW γ p 0 n0) (hv:γ.v p=0) (K:∀aQ w1 af w',Mv γ w aQ w1→wy p n0 w1→RM aQ.idle w1 af w'→MP (sys P) Q false 0 af w' gR):MP (sys P) Q false 0 γ w g2:=by
 refine .qE (vS v2).1 fun aQ w1 t1 j1 U iA qF=>?_;have A1:=hA.rely U;have x1:=iA.phase p A1.ph;have z1:aQ.v p=0:=by have:=jT hA U;omega
 refine⟨_,_,_,aQ,false,v2,fun a ha=>(by cases ha),fun r hr=>?_,iA.nil,fun k' _=>(sys P).refl k' aQ w1,?_⟩
 ·have:p.wg=r:=JC hr
  rw[←this,←he];exact mi x1.wg
 refine .said q3 fun cw w2 t2 j2 h2 lW vY=>?_;have A2:=A1.rely h2;have z2:cw.v p=0:=by have:=jT A1 h2;omega
 have V0:Deaf t2 0=0:=vY
 obtain⟨r1,r2,r3⟩:=QB (fn:=g3.frame.fn) (pos:=g3.frame.place) lW A2.ph A2.wm z2 V0;refine⟨_,false,r1,r2,mS (n:=n) m4 fun j_ w3 h3=>?_⟩
 rw[a4];refine K cw w2 j_ w3 ((Mv.of U).trans (Mv.of h2)) ?_ h3;obtain⟨cs,c1,c2,c3⟩:=r3;have ej:=lW.j;have ej':=A2.j;exact⟨cs,c1,c2,fun i c hi hc=>c3 i c (by omega) hc⟩
theorem oB {r1 r2 Of r3 s1 QZ TB Q0 LH w3 w4 w5 gR:Goroutine}{eW:TypeId}{p:Ph}{n0:Nat}
  (V1:aZ P undef (some (eW,2)) r1=some ⟨r2,#[],[],[p.wg,p.wg],none⟩) (YB:bM P r2=some (Of,#[dj (.write ⟨p.wg,1,none⟩)])) (YC:mute P 23 Of=true) (YD:aE P 23 Of=r3)
  (YE:je P (.int .u32 0) r3=some [⟨p.wg,1,none⟩]) (V2:aZ P (.int .u32 1) none r3=some ⟨s1,#[dj .disable,bE ⟨p.wg,1,none⟩,dr ⟨p.wg,1,none⟩,dj .enable],[⟨p.wg,1,none⟩,⟨p.wg,1,none⟩],[],some (⟨p.wg,1,none⟩,.int .u32 0)⟩)
  (YF:r3.offers=none) (YG:mute P 16 s1=true) (HX:aE P 16 s1=QZ) (V3:aZ P (.int .u64 0) none QZ=some ⟨TB,#[bE ⟨p.wg,0,none⟩],[⟨p.wg,0,none⟩],[],none⟩) (YH:mute P 11 TB=true) (YI:aE P 11 TB=Q0)
  (YJ:bM P Q0=some (LH,#[dj .enable])) (YK:mute P 3 LH=true) (YL:aE P 3 LH=w3) (YM:aZ P undef (some (eW,2)) w3=some ⟨w4,#[],[],[p.wg,p.wg],none⟩) (YN:bM P w4=some (w5,#[dj (.acquire ⟨p.wg,0,none⟩)])) (YO:mute P 10 w5=true) (YP:aE P 10 w5=gR)
  (he:p.eW=eW) (hA:kJ γ p n0) (K:∀aQ w1 af w',Mv γ w aQ w1→wy p n0 w1→RM aQ.idle w1 af w'→MP (sys P) Q false 0 af w' gR):MP (sys P) Q false 1 γ w r1:=by
 refine .qE (vS V1).1 fun aQ w1 t1 j1 U iA qF=>?_;have A1:=hA.rely U;have x1:=iA.phase p A1.ph;refine⟨_,_,_,aQ,false,V1,fun a ha=>(by cases ha),fun r hr=>?_,iA.nil,fun k' _=>(sys P).refl k' aQ w1,?_⟩
 ·have:p.wg=r:=JC hr
  rw[←this,←he];exact mi x1.wg
 refine .said YB fun cw w2 t2 j2 h2 lW vY=>?_;have A2:=A1.rely h2;have x2:=lW.phase p A2.ph;obtain⟨u1,u2⟩:=lD (fn:=r2.frame.fn) (pos:=r2.frame.place) lW (QS (o:=1) x2.sh (lW.cT _ x2.sh));refine⟨cw,false,u1,u2,?_⟩;have M2:=(Mv.of U).trans (Mv.of h2);clear U iA qF A1 x1 u1 u2 h2 lW x2 vY;have YQ:∀td w5,fW td p 0 n0→td.v p=0→Mv γ w td w5→MP (sys P) Q false 1 td w5 s1:=by
  intro td w5 A5 z5 M5;refine mS (n:=15) YG fun rE w6 h6=>?_;rw[HX];have A6:=A5.rely h6;have z6:rE.v p=0:=by have:=jT A5 h6;omega
  refine .qE (vS V3).1 fun yc w7 t7 j7 h7 yd QG=>?_;have A7:=A6.rely h7;have x7:=yd.phase p A7.ph;have z7:yc.v p=0:=by have:=jT A6 h7;omega
  have NR:=x7.wg;rw[A7.wm,z7]at NR;have V4:w7.heap[p.wg]?=some (cd p.eW 0 0):=by
   rw[NR];show some (cd p.eW (((0:Nat):Int)*bp) 0)=_
   rw[Int.natCast_zero,Int.zero_mul]
  obtain⟨u1,u2⟩:=lD (fn:=QZ.frame.fn) (pos:=QZ.frame.place) yd (pd (o:=0) x7.sh (yd.cT _ x7.sh));refine⟨_,_,_,yc,false,V3,fun a ha=>(JB ha)▸gL V4,fun r hr=>(by cases hr),u1,u2,?_⟩
  refine mS (n:=10) YH fun dV w8 h8=>?_;rw[YI];have A8:=A7.rely h8;have z8:dV.v p=0:=by have:=jT A7 h8;omega
  refine .said YJ fun NS w9 t9 j9 h9 YR hd9=>?_;have A9:=A8.rely h9;have z9:NS.v p=0:=by have:=jT A8 h9;omega
  obtain⟨u3,u4⟩:=lD (fn:=Q0.frame.fn) (pos:=Q0.frame.place) YR (iP (e:=dj .enable) rfl);refine⟨NS,false,u3,u4,mS (n:=2) YK fun V5 V6 pH=>?_⟩
  rw[YL];have YS:=A9.rely pH;have YT:V5.v p=0:=by have:=jT A9 pH;omega
  refine zd YM YN (n:=9) YO YP he YS YT fun rN wz af w' hM oC hR=>K rN wz af w' ?_ oC hR
  exact(((((M5.trans (Mv.of h6)).trans (Mv.of h7)).trans (Mv.of h8)).trans (Mv.of h9)).trans (Mv.of pH)).trans hM
 have rest:∀j_ w3,RM cw w2 j_ w3→MP (sys P) Q true 1 j_ w3 r3:=by
  intro j_ V7 h3;have A3:=A2.rely h3;refine .mk (vS V2).1 (fun _=>YF) (fun _ dQ Og t4 j4 h4 kg K5 S4=>?_) fun dQ Og t4 j4 h4 kg K5 qD=>?_
  ·have A4:=A3.rely (fX h4)
   have x4:=kg.phase p A4.ph;have R8:dQ.wm≠.rel:=S4
   have mj:=x4.wg;have te:vU dQ.wm=0:=by
    cases e:dQ.wm with
    |rel=>exact absurd e R8
    |_=>rfl
   rw[te]at mj;refine⟨ye YE Og fun a ha=>?_,?_⟩
   ·have:a=⟨p.wg,1,none⟩:=by simpa using ha
    rw[this];exact(tc mj).1
   ·cases e:dQ.wm with
    |rel=>exact absurd e R8
    |op=>exact absurd e A4.wm
    |bT=>
     obtain⟨e1,e2⟩:=x4.bT e;unfold Gh.v at e2;rw[e1]at e2;obtain⟨k,k1,k2,k3⟩:=CR (by simpa using e2)
     have NJ:=x4.j0;have ej:=kg.j;exact⟨k,by omega,by omega,fun hg=>k3 hg.1⟩
    |la k=>
     obtain⟨_,k1,k2,_⟩:=x4.la k (.inl e);have ej:=kg.j;exact⟨k,by omega,by omega,ig e⟩
    |lb k=>
     obtain⟨_,k1,k2,_⟩:=x4.la k (.inr e);have ej:=kg.j;exact⟨k,by omega,by omega,ox e⟩
  ·have A4:=A3.rely (fX h4)
   have x4:=kg.phase p A4.ph;have hrel:dQ.wm= .rel:=Classical.not_not.1 (qD rfl)
   have mj:=x4.wg;rw[hrel]at mj;obtain⟨Ld,s2,s3⟩:=Tj (w1:=Og.setCell ⟨p.wg,1,none⟩ (.int .u32 0)) (fn:=r3.frame.fn) (pos:=r3.frame.place) (es:= #[dj .disable,bE ⟨p.wg,1,none⟩,dr ⟨p.wg,1,none⟩,dj .enable]) kg A4.ph hrel ⟨rfl,rfl,rfl⟩ cj gq (CU mj 0) fun e he=>by
    have hB:=kg.cT _ x4.sh;simp at he
    rcases he with rfl|rfl|rfl|rfl
    ·exact iP rfl
    ·exact pd x4.sh hB
    ·exact As x4.sh hB
    ·exact iP rfl
   refine⟨.go ⟨s1,_,_,_⟩ false,⟨(vS V2).2 true Og (fun a ha=>(CV ha)▸tc mj) (fun r hr=>(by cases hr)),s2,s3⟩,fun x b' e=>?_,fun x b' e=>(by cases e)⟩
   cases e;have A5:fW (dQ.dK dQ.st .op) p 0 n0:=⟨A4.ph,rfl,A4.extra,A4.j⟩
   have M5:Mv γ w (dQ.dK dQ.st .op) (Og.setCell ⟨p.wg,1,none⟩ (.int .u32 0)):=((M2.trans (Mv.of h3)).trans (Mv.of (fX h4))).trans (At _ x4.sh rfl rfl rfl rfl rfl)
   have z5:(dQ.dK dQ.st .op).v p=0:=Ld
   exact YQ _ _ A5 z5 M5
 refine MP.mute (n:=22) YC fun j_ V7 h3=>⟨true,?_⟩
 rw[YD];exact rest j_ V7 (fX h3)
theorem LI {T:Type}{g0 g1 g2 gR:Goroutine}{wlG l1:T→Goroutine}{l2:T→Nat→Goroutine}{c1:T→Nat→Goroutine}{c2:T→Nat→Bool→Goroutine}{eW:TypeId}{p:Ph}{n0:Nat}{tm0:T}
  (m0:mute P 3 g0=true) (a0:aE P 3 g0=g1) (q1:bM P g1=some (g2,#[dj .disable])) (m2:mute P 3 g2=true) (a2:aE P 3 g2=wlG tm0)
  (ml:∀tm,mute P 16 (wlG tm)=true) (al:∀tm,aE P 16 (wlG tm)=l1 tm)
  (vl:∀tm v,v≤5→aZ P (.int .u64 (aP .op v)) none (l1 tm)=some ⟨l2 tm v,#[bE ⟨p.wg,0,none⟩],[⟨p.wg,0,none⟩],[],none⟩)
  (zero:∀tm,mute P 31 (l2 tm 0)=true∧∃En z2 z3 z4,bM P (aE P 31 (l2 tm 0))=some (En,#[dj .enable])∧mute P 3 En=true∧aE P 3 En=z2∧aZ P undef (some (eW,2)) z2=some ⟨z3,#[],[],[p.wg,p.wg],none⟩∧
   bM P z3=some (z4,#[dj (.acquire ⟨p.wg,0,none⟩)])∧mute P 20 z4=true∧aE P 20 z4=gR)
  (mc:∀tm v,1≤v→v≤5→mute P 48 (l2 tm v)=true∧aE P 48 (l2 tm v)=c1 tm v)
  (V8:∀tm v u,1≤v→v≤5→u<v→aZ P (.int .u64 (aP .op u)) (some (eW,2)) (c1 tm v)=some ⟨c2 tm v false,#[bE ⟨p.wg,0,none⟩],[⟨p.wg,0,none⟩,⟨p.wg,0,none⟩],[p.wg],none⟩)
  (Q1:∀tm v,1≤v→v≤5→mute P 9 (c2 tm v false)=true∧∃aT,aE P 9 (c2 tm v false)=wlG aT)
  (V9:∀tm v,1≤v→v≤5→aZ P (.int .u64 (aP .op v)) (some (eW,2)) (c1 tm v)=some ⟨c2 tm v true,#[bE ⟨p.wg,0,none⟩,dr ⟨p.wg,0,none⟩],[⟨p.wg,0,none⟩,⟨p.wg,0,none⟩,⟨p.wg,0,none⟩],[p.wg],some (⟨p.wg,0,none⟩,.int .u64 (aP .bT v))⟩)
  (bT:∀tm v,1≤v→v≤5→mute P 19 (c2 tm v true)=true∧∀γ w,kJ γ p n0→(∀aQ w1 af w',Mv γ w aQ w1→wy p n0 w1→RM aQ.idle w1 af w'→MP (sys P) Q false 0 af w' gR)→MP (sys P) Q false 1 γ w (aE P 19 (c2 tm v true)))
  (he:p.eW=eW) (hA:fW γ p 0 n0) (K:∀aQ w1 af w',Mv γ w aQ w1→wy p n0 w1→RM aQ.idle w1 af w'→MP (sys P) Q false 0 af w' gR):MP (sys P) Q false 0 γ w g0:=by
 have loop:∀(m:Nat) (γ:Gh) (w:World) (tm:T),fW γ p 0 n0→γ.v p≤m→m≤5→(∀aQ w1 af w',Mv γ w aQ w1→wy p n0 w1→RM aQ.idle w1 af w'→MP (sys P) Q false 0 af w' gR)→MP (sys P) Q false 1 γ w (wlG tm):=by
  intro m;induction m using Nat.strongRecOn with
  |ind m ih=>
   intro γ w tm hA hm hm5 K;refine mS (n:=15) (ml tm) fun aQ w1 U=>?_;rw[al];have A1:=hA.rely U;have e1:aQ.v p≤m:=Nat.le_trans (jT hA U) hm
   refine .qE (vS (vl tm 0 (by omega))).1 fun cw w2 t2 j2 h2 lW vY=>?_
   have A2:=A1.rely h2;have x2:=lW.phase p A2.ph;have e2:cw.v p≤m:=Nat.le_trans (jT A1 h2) e1
   have rv:=x2.wg;rw[A2.wm]at rv;obtain⟨u1,u2⟩:=lD (fn:=(l1 tm).frame.fn) (pos:=(l1 tm).frame.place) lW (pd (o:=0) x2.sh (lW.cT _ x2.sh));refine⟨_,_,_,cw,false,vl tm (cw.v p) (by omega),fun a ha=>(JB ha)▸gL rv,fun r hr=>(by cases hr),u1,u2,?_⟩
   have M2:=(Mv.of U).trans (Mv.of h2);generalize hv:cw.v p=v at*;show MP (sys P) Q false 1 cw w2 (l2 tm v)
   rcases Nat.eq_zero_or_pos v with rfl|dp
   ·obtain⟨k1,En,z2,z3,z4,k2,k3,k4,k5,k6,k7,k8⟩:=zero tm
    refine mS (n:=30) k1 fun j_ w3 h3=>?_;have A3:=A2.rely h3;have e3:j_.v p=0:=by have:=jT A2 h3;omega
    refine .said k2 fun dQ w4 t4 j4 h4 kg K5=>?_;have A4:=A3.rely h4;have e4:dQ.v p=0:=by have:=jT A3 h4;omega
    obtain⟨u3,u4⟩:=lD (fn:=(aE P 31 (l2 tm 0)).frame.fn) (pos:=(aE P 31 (l2 tm 0)).frame.place) kg (iP (e:=dj .enable) rfl);refine⟨dQ,false,u3,u4,mS (n:=2) k3 fun td w5 h5=>?_⟩
    rw[k4];have A5:=A4.rely h5;have e5:td.v p=0:=by have:=jT A4 h5;omega
    refine zd k5 k6 (n:=19) k7 k8 he A5 e5 fun rN wz af w' hM oC hR=>K rN wz af w' ?_ oC hR
    exact(((M2.trans (Mv.of h3)).trans (Mv.of h4)).trans (Mv.of h5)).trans hM
   ·obtain⟨k1,k2⟩:=mc tm v dp (by omega)
    refine mS (n:=47) k1 fun j_ w3 h3=>?_;rw[k2];have A3:=A2.rely h3;have e3:j_.v p≤v:=by have:=jT A2 h3;omega
    refine .qE (vS (V9 tm v dp (by omega))).1 fun dQ w4 t4 j4 h4 kg K5=>?_
    have A4:=A3.rely h4;have e4:dQ.v p≤v:=by have:=jT A3 h4;omega
    have x4:=kg.phase p A4.ph;have mj:=x4.wg;rw[A4.wm]at mj;have hB:=kg.cT _ x4.sh;have M4:=(M2.trans (Mv.of h3)).trans (Mv.of h4);have V_:∀r∈[p.wg],w4.shape? r=some (eW,2):=fun r hr=>by
     have:p.wg=r:=(by simpa using hr:r=p.wg).symm
     rw[←this,←he];exact mi mj
    by_cases Ld:dQ.v p=v
    ·rw[Ld]at mj
     obtain⟨s1,s2⟩:=Ti (w1:=w4.setCell ⟨p.wg,0,none⟩ (.int .u64 (aP .bT v))) (fn:=(c1 tm v).frame.fn) (pos:=(c1 tm v).frame.place) (es:= #[bE ⟨p.wg,0,none⟩,dr ⟨p.wg,0,none⟩]) kg A4.ph A4.wm A4.extra (by omega) ⟨rfl,rfl,rfl⟩ cj gq (by rw[Ld];exact rD mj _) fun e he=>by
      simp at he
      rcases he with rfl|rfl
      ·exact pd x4.sh hB
      ·exact As x4.sh hB
     refine⟨_,_,_,_,false,V9 tm v dp (by omega),fun a ha=>?_,V_,s1,s2,?_⟩
     ·have:a=⟨p.wg,0,none⟩:=by simpa using ha
      rw[this];exact gL mj
     ·obtain⟨k3,k4⟩:=bT tm v dp (by omega)
      have A5:kJ (dQ.dK dQ.st .bT) p n0:=⟨A4.ph,nofun,A4.extra,A4.j⟩
      have M5:Mv γ w (dQ.dK dQ.st .bT) (w4.setCell ⟨p.wg,0,none⟩ (.int .u64 (aP .bT v))):=M4.trans (At _ x4.sh rfl rfl rfl rfl rfl)
      refine mS (n:=18) k3 fun rE w6 h6=>?_;exact k4 rE w6 (A5.rely h6) fun rN wz af w' hM oC hR=>K rN wz af w' ((M5.trans (Mv.of h6)).trans hM) oC hR
    ·obtain⟨s1,s2⟩:=lD (fn:=(c1 tm v).frame.fn) (pos:=(c1 tm v).frame.place) kg (pd (o:=0) x4.sh hB)
     refine⟨_,_,_,dQ,false,V8 tm v (dQ.v p) dp (by omega) (by omega),fun a ha=>(CV ha)▸gL mj,V_,s1,s2,?_⟩
     obtain⟨k3,aT,k4⟩:=Q1 tm v dp (by omega)
     refine mS (n:=8) k3 fun td w5 h5=>?_;rw[k4];refine ih (v-1) (by omega) td w5 aT (A4.rely h5) ?_ (by omega) fun rN wz af w' hM oC hR=>K rN wz af w' ((M4.trans (Mv.of h5)).trans hM) oC hR
     have:=jT A4 h5
     omega
 refine mS (n:=2) m0 fun aQ w1 U=>?_;rw[a0];have A1:=hA.rely U;refine .said q1 fun cw w2 t2 j2 h2 lW vY=>?_;have A2:=A1.rely h2;have x2:=lW.phase p A2.ph;have xY:cw.v p≤5:=by
  have h5:=uX (st:=cw.st) (j0:=p.j0) (m:=cw.j-p.j0);have h6:=x2.jn;have h7:=x2.n5;unfold Gh.v;omega
 obtain⟨r1,r2⟩:=lD (fn:=g1.frame.fn) (pos:=g1.frame.place) lW (iP (e:=dj .disable) rfl);refine⟨cw,false,r1,r2,mS (n:=2) m2 fun j_ w3 h3=>?_⟩
 rw[a2];refine loop 5 j_ w3 tm0 (A2.rely h3) (by have:=jT A2 h3;omega) (Nat.le_refl _) fun rN wz af w' hM oC hR=>K rN wz af w' ((((Mv.of U).trans (Mv.of h2)).trans (Mv.of h3)).trans hM) oC hR
end
end Go.Proofs.YtjklkppncmhehaaGreat.Sr
