/-
What is proved: the starter's way through Wait ('wait_way'). Conditions: those that the theorem states.
-/
import Derived.Test.YtjklkppncmhehaaGreatRx16
import Derived.Test.YtjklkppncmhehaaGreatRx19
set_option linter.unusedVariables false
set_option linter.unusedSimpArgs false
namespace Go.Proofs.YtjklkppncmhehaaGreat.Sr
open Go Go.Conc Go.ConcN
section
variable {P:Program}{Q:Gh→World→Trace→Nat→Outcome→World→Prop}{γ:Gh}{w:World}
structure mI (γ:Gh) (p:Ph) (n0:Nat):Prop where
 ph:γ.ph=some p
 wm:γ.wm≠.op
 extra:γ.extra=0
 j:γ.j=n0
theorem mI.rely {γ ah:Gh}{w w':World}{p:Ph}{n0:Nat}(h:mI γ p n0)(r:RM γ w ah w'):mI ah p n0:=by
 obtain⟨_,a,_,b,c⟩:=r.gh;exact⟨a.trans h.ph,fun e=>h.wm (r.wm.2 e),b.trans h.extra,c.trans h.j⟩
theorem lN {γ ah:Gh}{w w':World}{p:Ph}{n0:Nat}(h:iE γ p 0 n0)(r:RM γ w ah w'):ah.v p≤γ.v p:=by
 have h1:=r.le p h.ph;obtain⟨_,_,_,b,c⟩:=r.gh;unfold Gh.v;rw[b,c];omega
theorem nA {t:Trace}{j:Nat}{fn:FuncId}{pos:String}{e0:Event}(hJ:JJ γ w t j)(h:v_ γ j w.heap.size e0):JJ γ w (t++MemOp.ofEvents 0 fn pos #[e0]) j∧∀k',k'≠0→RR k' γ w γ w:=
 uC hJ fun e he=>by simp at he;subst he;exact h
theorem JJ.nil {t:Trace}{j:Nat}{fn:FuncId}{pos:String}(hJ:JJ γ w t j):JJ γ w (t++MemOp.ofEvents 0 fn pos #[]) j:=by
 rw[DE,Array.append_empty];exact hJ
def zC (p:Ph)(n0:Nat)(w:World):Prop:=∃cs,w.heap[p.A]?=some (.cells cs p.eA)∧cs.size=5*p.n∧∀i c,i<n0-p.j0→c<5→cs[5*i+c]?=some (p.ng i c)
theorem Cr {g2 g3 g4 gR:Goroutine}{n:Nat}{eW:TypeId}{p:Ph}{n0:Nat}
  (v2:bn P undef (some (eW,2)) g2=some ⟨g3,#[],[],[p.wg,p.wg],none⟩) (q3:bX P g3=some (g4,#[dX (.acquire ⟨p.wg,0,none⟩)])) (m4:mute P (n+1) g4=true) (a4:aN P (n+1) g4=gR)
  (he:p.eW=eW) (hA:iE γ p 0 n0) (hv:γ.v p=0) (K:∀aX w1 ah w',Mv γ w aX w1→zC p n0 w1→RM aX.idle w1 ah w'→MP (sys P) Q false 0 ah w' gR):MP (sys P) Q false 0 γ w g2:=by
 refine .tC (vS v2).1 fun aX w1 t1 j1 h1 jT tD=>?_;have A1:=hA.rely h1;have x1:=jT.phase p A1.ph;have z1:aX.v p=0:=by have:=lN hA h1;omega
 refine⟨_,_,_,aX,false,v2,fun a ha=>(by cases ha),fun r hr=>?_,jT.nil,fun k' _=>(sys P).refl k' aX w1,?_⟩
 ·have:p.wg=r:=Na hr
  rw[←this,←he];exact om x1.wg
 refine .said q3 fun dg w2 t2 j2 h2 nU wi=>?_;have A2:=A1.rely h2;have z2:dg.v p=0:=by have:=lN A1 h2;omega
 have Za:Deaf t2 0=0:=wi
 obtain⟨r1,r2,r3⟩:=Ut (fn:=g3.frame.fn) (pos:=g3.frame.place) nU A2.ph A2.wm z2 Za;refine⟨_,false,r1,r2,mS (n:=n) m4 fun lX w3 h3=>?_⟩
 rw[a4];refine K dg w2 lX w3 ((Mv.of h1).trans (Mv.of h2)) ?_ h3;obtain⟨cs,c1,c2,c3⟩:=r3;have ej:=nU.j;have ej':=A2.j;exact⟨cs,c1,c2,fun i c hi hc=>c3 i c (by omega) hc⟩
theorem qQ {r1 r2 RY r3 s1 UR W6 US Pt w3 w4 w5 gR:Goroutine}{eW:TypeId}{p:Ph}{n0:Nat}
  (Zb:bn P undef (some (eW,2)) r1=some ⟨r2,#[],[],[p.wg,p.wg],none⟩) (qr2:bX P r2=some (RY,#[dX (.write ⟨p.wg,1,none⟩)])) (mr2:mute P 23 RY=true) (ar2:aN P 23 RY=r3)
  (br3:kH P (.int .u32 0) r3=some [⟨p.wg,1,none⟩]) (Zc:bn P (.int .u32 1) none r3=some ⟨s1,#[dX .disable,bR ⟨p.wg,1,none⟩,ew ⟨p.wg,1,none⟩,dX .enable],[⟨p.wg,1,none⟩,⟨p.wg,1,none⟩],[],some (⟨p.wg,1,none⟩,.int .u32 0)⟩)
  (or3:r3.offers=none) (ms1:mute P 16 s1=true) (Lj:aN P 16 s1=UR) (Zd:bn P (.int .u64 0) none UR=some ⟨W6,#[bR ⟨p.wg,0,none⟩],[⟨p.wg,0,none⟩],[],none⟩) (mw1:mute P 11 W6=true) (aw1:aN P 11 W6=US)
  (qw2:bX P US=some (Pt,#[dX .enable])) (mw2:mute P 3 Pt=true) (aw2:aN P 3 Pt=w3) (vw3:bn P undef (some (eW,2)) w3=some ⟨w4,#[],[],[p.wg,p.wg],none⟩) (qw4:bX P w4=some (w5,#[dX (.acquire ⟨p.wg,0,none⟩)])) (mw5:mute P 10 w5=true) (aw5:aN P 10 w5=gR)
  (he:p.eW=eW) (hA:mI γ p n0) (K:∀aX w1 ah w',Mv γ w aX w1→zC p n0 w1→RM aX.idle w1 ah w'→MP (sys P) Q false 0 ah w' gR):MP (sys P) Q false 1 γ w r1:=by
 refine .tC (vS Zb).1 fun aX w1 t1 j1 h1 jT tD=>?_;have A1:=hA.rely h1;have x1:=jT.phase p A1.ph;refine⟨_,_,_,aX,false,Zb,fun a ha=>(by cases ha),fun r hr=>?_,jT.nil,fun k' _=>(sys P).refl k' aX w1,?_⟩
 ·have:p.wg=r:=Na hr
  rw[←this,←he];exact om x1.wg
 refine .said qr2 fun dg w2 t2 j2 h2 nU wi=>?_;have A2:=A1.rely h2;have x2:=nU.phase p A2.ph;obtain⟨u1,u2⟩:=nA (fn:=r2.frame.fn) (pos:=r2.frame.place) nU (UK (o:=1) x2.sh (nU.dD _ x2.sh));refine⟨dg,false,u1,u2,?_⟩;have M2:=(Mv.of h1).trans (Mv.of h2);clear h1 jT tD A1 x1 u1 u2 h2 nU x2 wi;have aft:∀wj w5,iE wj p 0 n0→wj.v p=0→Mv γ w wj w5→MP (sys P) Q false 1 wj w5 s1:=by
  intro wj w5 A5 z5 M5;refine mS (n:=15) ms1 fun uE w6 h6=>?_;rw[Lj];have A6:=A5.rely h6;have z6:uE.v p=0:=by have:=lN A5 h6;omega
  refine .tC (vS Zd).1 fun Bj w7 t7 j7 h7 Bm Uy=>?_;have A7:=A6.rely h7;have x7:=Bm.phase p A7.ph;have z7:Bj.v p=0:=by have:=lN A6 h7;omega
  have Rv:=x7.wg;rw[A7.wm,z7]at Rv;have Ze:w7.heap[p.wg]?=some (cM p.eW 0 0):=by
   rw[Rv];show some (cM p.eW (((0:Nat):Int)*bJ) 0)=_
   rw[Int.natCast_zero,Int.zero_mul]
  obtain⟨u1,u2⟩:=nA (fn:=UR.frame.fn) (pos:=UR.frame.place) Bm (rL (o:=0) x7.sh (Bm.dD _ x7.sh));refine⟨_,_,_,Bj,false,Zd,fun a ha=>(M_ ha)▸jl Ze,fun r hr=>(by cases hr),u1,u2,?_⟩
  refine mS (n:=10) mw1 fun fH w8 h8=>?_;rw[aw1];have A8:=A7.rely h8;have z8:fH.v p=0:=by have:=lN A7 h8;omega
  refine .said qw2 fun Rw w9 t9 j9 h9 hJ9 hd9=>?_;have A9:=A8.rely h9;have z9:Rw.v p=0:=by have:=lN A8 h9;omega
  obtain⟨u3,u4⟩:=nA (fn:=US.frame.fn) (pos:=US.frame.place) hJ9 (kl (e:=dX .enable) rfl);refine⟨Rw,false,u3,u4,mS (n:=2) mw2 fun Zf Zg sq=>?_⟩
  rw[aw2];have A10:=A9.rely sq;have z10:Zf.v p=0:=by have:=lN A9 sq;omega
  refine Cr vw3 qw4 (n:=9) mw5 aw5 he A10 z10 fun uM zD ah w' hM qR hR=>K uM zD ah w' ?_ qR hR
  exact(((((M5.trans (Mv.of h6)).trans (Mv.of h7)).trans (Mv.of h8)).trans (Mv.of h9)).trans (Mv.of sq)).trans hM
 have rest:∀lX w3,RM dg w2 lX w3→MP (sys P) Q true 1 lX w3 r3:=by
  intro lX Zh h3;have A3:=A2.rely h3;refine .mk (vS Zc).1 (fun _=>or3) (fun _ fu RZ t4 j4 h4 lY OJ WA=>?_) fun fu RZ t4 j4 h4 lY OJ tB=>?_
  ·have A4:=A3.rely (iG h4)
   have x4:=lY.phase p A4.ph;have VS:fu.wm≠.rel:=WA
   have oo:=x4.wg;have pa:zn fu.wm=0:=by
    cases e:fu.wm with
    |rel=>exact absurd e VS
    |_=>rfl
   rw[pa]at oo;refine⟨Bo br3 RZ fun a ha=>?_,?_⟩
   ·have:a=⟨p.wg,1,none⟩:=by simpa using ha
    rw[this];exact(wh oo).1
   ·cases e:fu.wm with
    |rel=>exact absurd e VS
    |op=>exact absurd e A4.wm
    |cp=>
     obtain⟨e1,e2⟩:=x4.cp e;unfold Gh.v at e2;rw[e1]at e2;obtain⟨k,k1,k2,k3⟩:=Gf (by simpa using e2)
     have Rn:=x4.j0;have ej:=lY.j;exact⟨k,by omega,by omega,fun hg=>k3 hg.1⟩
    |la k=>
     obtain⟨_,k1,k2,_⟩:=x4.la k (.inl e);have ej:=lY.j;exact⟨k,by omega,by omega,jF e⟩
    |lb k=>
     obtain⟨_,k1,k2,_⟩:=x4.la k (.inr e);have ej:=lY.j;exact⟨k,by omega,by omega,qM e⟩
  ·have A4:=A3.rely (iG h4)
   have x4:=lY.phase p A4.ph;have hrel:fu.wm= .rel:=Classical.not_not.1 (tB rfl)
   have oo:=x4.wg;rw[hrel]at oo;obtain⟨OR,s2,s3⟩:=WO (w1:=RZ.setCell ⟨p.wg,1,none⟩ (.int .u32 0)) (fn:=r3.frame.fn) (pos:=r3.frame.place) (es:= #[dX .disable,bR ⟨p.wg,1,none⟩,ew ⟨p.wg,1,none⟩,dX .enable]) lY A4.ph hrel ⟨rfl,rfl,rfl⟩ cS iY (Gi oo 0) fun e he=>by
    have hB:=lY.dD _ x4.sh;simp at he
    rcases he with rfl|rfl|rfl|rfl
    ·exact kl rfl
    ·exact rL x4.sh hB
    ·exact DO x4.sh hB
    ·exact kl rfl
   refine⟨.go ⟨s1,_,_,_⟩ false,⟨(vS Zc).2 true RZ (fun a ha=>(Gj ha)▸wh oo) (fun r hr=>(by cases hr)),s2,s3⟩,fun x b' e=>?_,fun x b' e=>(by cases e)⟩
   cases e;have A5:iE (fu.e_ fu.st .op) p 0 n0:=⟨A4.ph,rfl,A4.extra,A4.j⟩
   have M5:Mv γ w (fu.e_ fu.st .op) (RZ.setCell ⟨p.wg,1,none⟩ (.int .u32 0)):=((M2.trans (Mv.of h3)).trans (Mv.of (iG h4))).trans (DQ _ x4.sh rfl rfl rfl rfl rfl)
   have z5:(fu.e_ fu.st .op).v p=0:=OR
   exact aft _ _ A5 z5 M5
 refine MP.mute (n:=22) mr2 fun lX Zh h3=>⟨true,?_⟩
 rw[ar2];exact rest lX Zh (iG h3)
theorem Pu {T:Type}{g0 g1 g2 gR:Goroutine}{wlG l1:T→Goroutine}{l2:T→Nat→Goroutine}{c1:T→Nat→Goroutine}{c2:T→Nat→Bool→Goroutine}{eW:TypeId}{p:Ph}{n0:Nat}{tm0:T}
  (m0:mute P 3 g0=true) (a0:aN P 3 g0=g1) (q1:bX P g1=some (g2,#[dX .disable])) (m2:mute P 3 g2=true) (a2:aN P 3 g2=wlG tm0)
  (ml:∀tm,mute P 16 (wlG tm)=true) (al:∀tm,aN P 16 (wlG tm)=l1 tm)
  (vl:∀tm v,v≤5→bn P (.int .u64 (aW .op v)) none (l1 tm)=some ⟨l2 tm v,#[bR ⟨p.wg,0,none⟩],[⟨p.wg,0,none⟩],[],none⟩)
  (zero:∀tm,mute P 31 (l2 tm 0)=true∧∃HP z2 z3 z4,bX P (aN P 31 (l2 tm 0))=some (HP,#[dX .enable])∧mute P 3 HP=true∧aN P 3 HP=z2∧bn P undef (some (eW,2)) z2=some ⟨z3,#[],[],[p.wg,p.wg],none⟩∧
   bX P z3=some (z4,#[dX (.acquire ⟨p.wg,0,none⟩)])∧mute P 20 z4=true∧aN P 20 z4=gR)
  (mc:∀tm v,1≤v→v≤5→mute P 48 (l2 tm v)=true∧aN P 48 (l2 tm v)=c1 tm v)
  (Zi:∀tm v u,1≤v→v≤5→u<v→bn P (.int .u64 (aW .op u)) (some (eW,2)) (c1 tm v)=some ⟨c2 tm v false,#[bR ⟨p.wg,0,none⟩],[⟨p.wg,0,none⟩,⟨p.wg,0,none⟩],[p.wg],none⟩)
  (UT:∀tm v,1≤v→v≤5→mute P 9 (c2 tm v false)=true∧∃bd,aN P 9 (c2 tm v false)=wlG bd)
  (Zj:∀tm v,1≤v→v≤5→bn P (.int .u64 (aW .op v)) (some (eW,2)) (c1 tm v)=some ⟨c2 tm v true,#[bR ⟨p.wg,0,none⟩,ew ⟨p.wg,0,none⟩],[⟨p.wg,0,none⟩,⟨p.wg,0,none⟩,⟨p.wg,0,none⟩],[p.wg],some (⟨p.wg,0,none⟩,.int .u64 (aW .cp v))⟩)
  (cp:∀tm v,1≤v→v≤5→mute P 19 (c2 tm v true)=true∧∀γ w,mI γ p n0→(∀aX w1 ah w',Mv γ w aX w1→zC p n0 w1→RM aX.idle w1 ah w'→MP (sys P) Q false 0 ah w' gR)→MP (sys P) Q false 1 γ w (aN P 19 (c2 tm v true)))
  (he:p.eW=eW) (hA:iE γ p 0 n0) (K:∀aX w1 ah w',Mv γ w aX w1→zC p n0 w1→RM aX.idle w1 ah w'→MP (sys P) Q false 0 ah w' gR):MP (sys P) Q false 0 γ w g0:=by
 have loop:∀(m:Nat) (γ:Gh) (w:World) (tm:T),iE γ p 0 n0→γ.v p≤m→m≤5→(∀aX w1 ah w',Mv γ w aX w1→zC p n0 w1→RM aX.idle w1 ah w'→MP (sys P) Q false 0 ah w' gR)→MP (sys P) Q false 1 γ w (wlG tm):=by
  intro m;induction m using Nat.strongRecOn with
  |ind m ih=>
   intro γ w tm hA hm hm5 K;refine mS (n:=15) (ml tm) fun aX w1 h1=>?_;rw[al];have A1:=hA.rely h1;have e1:aX.v p≤m:=Nat.le_trans (lN hA h1) hm
   refine .tC (vS (vl tm 0 (by omega))).1 fun dg w2 t2 j2 h2 nU wi=>?_
   have A2:=A1.rely h2;have x2:=nU.phase p A2.ph;have e2:dg.v p≤m:=Nat.le_trans (lN A1 h2) e1
   have dm:=x2.wg;rw[A2.wm]at dm;obtain⟨u1,u2⟩:=nA (fn:=(l1 tm).frame.fn) (pos:=(l1 tm).frame.place) nU (rL (o:=0) x2.sh (nU.dD _ x2.sh));refine⟨_,_,_,dg,false,vl tm (dg.v p) (by omega),fun a ha=>(M_ ha)▸jl dm,fun r hr=>(by cases hr),u1,u2,?_⟩
   have M2:=(Mv.of h1).trans (Mv.of h2);generalize hv:dg.v p=v at*;show MP (sys P) Q false 1 dg w2 (l2 tm v)
   rcases Nat.eq_zero_or_pos v with rfl|cX
   ·obtain⟨k1,HP,z2,z3,z4,k2,k3,k4,k5,k6,k7,k8⟩:=zero tm
    refine mS (n:=30) k1 fun lX w3 h3=>?_;have A3:=A2.rely h3;have e3:lX.v p=0:=by have:=lN A2 h3;omega
    refine .said k2 fun fu w4 t4 j4 h4 lY OJ=>?_;have A4:=A3.rely h4;have e4:fu.v p=0:=by have:=lN A3 h4;omega
    obtain⟨u3,u4⟩:=nA (fn:=(aN P 31 (l2 tm 0)).frame.fn) (pos:=(aN P 31 (l2 tm 0)).frame.place) lY (kl (e:=dX .enable) rfl);refine⟨fu,false,u3,u4,mS (n:=2) k3 fun wj w5 h5=>?_⟩
    rw[k4];have A5:=A4.rely h5;have e5:wj.v p=0:=by have:=lN A4 h5;omega
    refine Cr k5 k6 (n:=19) k7 k8 he A5 e5 fun uM zD ah w' hM qR hR=>K uM zD ah w' ?_ qR hR
    exact(((M2.trans (Mv.of h3)).trans (Mv.of h4)).trans (Mv.of h5)).trans hM
   ·obtain⟨k1,k2⟩:=mc tm v cX (by omega)
    refine mS (n:=47) k1 fun lX w3 h3=>?_;rw[k2];have A3:=A2.rely h3;have e3:lX.v p≤v:=by have:=lN A2 h3;omega
    refine .tC (vS (Zj tm v cX (by omega))).1 fun fu w4 t4 j4 h4 lY OJ=>?_
    have A4:=A3.rely h4;have e4:fu.v p≤v:=by have:=lN A3 h4;omega
    have x4:=lY.phase p A4.ph;have oo:=x4.wg;rw[A4.wm]at oo;have hB:=lY.dD _ x4.sh;have M4:=(M2.trans (Mv.of h3)).trans (Mv.of h4);have Zk:∀r∈[p.wg],w4.shape? r=some (eW,2):=fun r hr=>by
     have:p.wg=r:=(by simpa using hr:r=p.wg).symm
     rw[←this,←he];exact om oo
    by_cases OR:fu.v p=v
    ·rw[OR]at oo
     obtain⟨s1,s2⟩:=WN (w1:=w4.setCell ⟨p.wg,0,none⟩ (.int .u64 (aW .cp v))) (fn:=(c1 tm v).frame.fn) (pos:=(c1 tm v).frame.place) (es:= #[bR ⟨p.wg,0,none⟩,ew ⟨p.wg,0,none⟩]) lY A4.ph A4.wm A4.extra (by omega) ⟨rfl,rfl,rfl⟩ cS iY (by rw[OR];exact uD oo _) fun e he=>by
      simp at he
      rcases he with rfl|rfl
      ·exact rL x4.sh hB
      ·exact DO x4.sh hB
     refine⟨_,_,_,_,false,Zj tm v cX (by omega),fun a ha=>?_,Zk,s1,s2,?_⟩
     ·have:a=⟨p.wg,0,none⟩:=by simpa using ha
      rw[this];exact jl oo
     ·obtain⟨k3,k4⟩:=cp tm v cX (by omega)
      have A5:mI (fu.e_ fu.st .cp) p n0:=⟨A4.ph,nofun,A4.extra,A4.j⟩
      have M5:Mv γ w (fu.e_ fu.st .cp) (w4.setCell ⟨p.wg,0,none⟩ (.int .u64 (aW .cp v))):=M4.trans (DQ _ x4.sh rfl rfl rfl rfl rfl)
      refine mS (n:=18) k3 fun uE w6 h6=>?_;exact k4 uE w6 (A5.rely h6) fun uM zD ah w' hM qR hR=>K uM zD ah w' ((M5.trans (Mv.of h6)).trans hM) qR hR
    ·obtain⟨s1,s2⟩:=nA (fn:=(c1 tm v).frame.fn) (pos:=(c1 tm v).frame.place) lY (rL (o:=0) x4.sh hB)
     refine⟨_,_,_,fu,false,Zi tm v (fu.v p) cX (by omega) (by omega),fun a ha=>(Gj ha)▸jl oo,Zk,s1,s2,?_⟩
     obtain⟨k3,bd,k4⟩:=UT tm v cX (by omega)
     refine mS (n:=8) k3 fun wj w5 h5=>?_;rw[k4];refine ih (v-1) (by omega) wj w5 bd (A4.rely h5) ?_ (by omega) fun uM zD ah w' hM qR hR=>K uM zD ah w' ((M4.trans (Mv.of h5)).trans hM) qR hR
     have:=lN A4 h5
     omega
 refine mS (n:=2) m0 fun aX w1 h1=>?_;rw[a0];have A1:=hA.rely h1;refine .said q1 fun dg w2 t2 j2 h2 nU wi=>?_;have A2:=A1.rely h2;have x2:=nU.phase p A2.ph;have Bf:dg.v p≤5:=by
  have h5:=yw (st:=dg.st) (j0:=p.j0) (m:=dg.j-p.j0);have h6:=x2.jn;have h7:=x2.n5;unfold Gh.v;omega
 obtain⟨r1,r2⟩:=nA (fn:=g1.frame.fn) (pos:=g1.frame.place) nU (kl (e:=dX .disable) rfl);refine⟨dg,false,r1,r2,mS (n:=2) m2 fun lX w3 h3=>?_⟩
 rw[a2];refine loop 5 lX w3 tm0 (A2.rely h3) (by have:=lN A2 h3;omega) (Nat.le_refl _) fun uM zD ah w' hM qR hR=>K uM zD ah w' ((((Mv.of h1).trans (Mv.of h2)).trans (Mv.of h3)).trans hM) qR hR
end
end Go.Proofs.YtjklkppncmhehaaGreat.Sr
