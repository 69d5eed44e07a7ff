/-
What is proved: the starter's way through Wait. Conditions: as stated.
-/
import Derived.Test.YtlhohdjniaebbaaGreatRy16
import Derived.Test.YtlhohdjniaebbaaGreatRy19
set_option linter.unusedVariables false
set_option linter.unusedSimpArgs false
namespace Go.Proofs.YtlhohdjniaebbaaGreat.Sr
open Go Go.Conc Go.ConcN
section
variable {P:Program}{Q:Gh→World→Trace→Nat→Outcome→World→Prop}{γ:Gh}{w:World}
structure lP (γ:Gh) (p:Ph) (n0:Nat):Prop where
 ph:γ.ph=some p
 wm:γ.wm≠.op
 extra:γ.extra=0
 j:γ.j=n0
theorem lP.rely {γ ah:Gh}{w w':World}{p:Ph}{n0:Nat}(h:lP γ p n0)(r:RM γ w ah w'):lP ah p n0:=by
 obtain⟨_,a,_,b,c⟩:=r.gh;exact⟨a.trans h.ph,fun e=>h.wm (r.wm.2 e),b.trans h.extra,c.trans h.j⟩
theorem kY {γ ah:Gh}{w w':World}{p:Ph}{n0:Nat}(h:gZ γ p 0 n0)(r:RM γ w ah w'):ah.v p≤γ.v p:=by
 have h1:=r.le p h.ph;obtain⟨_,_,_,b,c⟩:=r.gh;unfold Gh.v;rw[b,c];omega
theorem mM {t:Trace}{j:Nat}{fn:FuncId}{pos:String}{e0:Event}(hJ:JJ γ w t j)(h:rj γ j w.heap.size e0):JJ γ w (t++MemOp.ofEvents 0 fn pos #[e0]) j∧∀k',k'≠0→RR k' γ w γ w:=
 pX hJ fun e he=>by simp at he;subst he;exact h
theorem JJ.nil {t:Trace}{j:Nat}{fn:FuncId}{pos:String}(hJ:JJ γ w t j):JJ γ w (t++MemOp.ofEvents 0 fn pos #[]) j:=by
 rw[Dg,Array.append_empty];exact hJ
def za (p:Ph)(n0:Nat)(w:World):Prop:=∃cs,w.heap[p.A]?=some (.cells cs p.eA)∧cs.size=5*p.n∧∀i c,i<n0-p.j0→c<5→cs[5*i+c]?=some (p.mB i c)
theorem B6 {g2 g3 g4 gR:Goroutine}{n:Nat}{eW:TypeId}{p:Ph}{n0:Nat}
  (v2:bn P undef (some (eW,2)) g2=some ⟨g3,#[],[],[p.wg,p.wg],none⟩) (q3:bU P g3=some (g4,#[dL (.acquire ⟨p.wg,0,none⟩)])) (m4:mute P (n+1) g4=true) (a4:aL P (n+1) g4=gR)
  (he:p.eW=eW) (hA:gZ γ p 0 n0) (hv:γ.v p=0) (K:∀γ1 w1 ah w',Mv γ w γ1 w1→za p n0 w1→RM γ1.idle w1 ah w'→MP (sys P) Q false 0 ah w' gR):MP (sys P) Q false 0 γ w g2:=by
 refine .rk (vS v2).1 fun γ1 w1 t1 j1 h1 jF sJ=>?_;have A1:=hA.rely h1;have x1:=jF.phase p A1.ph;have z1:γ1.v p=0:=by have:=kY hA h1;omega
 refine⟨_,_,_,γ1,false,v2,fun a ha=>(by cases ha),fun r hr=>?_,jF.nil,fun k' _=>(sys P).refl k' γ1 w1,?_⟩
 ·have:p.wg=r:=NV hr
  rw[←this,←he];exact nI x1.wg
 refine .said q3 fun cZ w2 t2 j2 h2 nj yS=>?_;have A2:=A1.rely h2;have z2:cZ.v p=0:=by have:=kY A1 h2;omega
 have aa4:Deaf t2 0=0:=yS
 obtain⟨r1,r2,r3⟩:=Wg (fn:=g3.frame.fn) (pos:=g3.frame.place) nj A2.ph A2.wm z2 aa4;refine⟨_,false,r1,r2,mS (n:=n) m4 fun lj w3 h3=>?_⟩
 rw[a4];refine K cZ w2 lj w3 ((Mv.of h1).trans (Mv.of h2)) ?_ h3;obtain⟨cs,c1,c2,c3⟩:=r3;have ej:=nj.j;have ej':=A2.j;exact⟨cs,c1,c2,fun i c hi hc=>c3 i c (by omega) hc⟩
theorem qa {r1 r2 Tq r3 s1 WH Zn WI Qe w3 w4 w5 gR:Goroutine}{eW:TypeId}{p:Ph}{n0:Nat}
  (vr1:bn P undef (some (eW,2)) r1=some ⟨r2,#[],[],[p.wg,p.wg],none⟩) (qr2:bU P r2=some (Tq,#[dL (.write ⟨p.wg,1,none⟩)])) (mr2:mute P 23 Tq=true) (ar2:aL P 23 Tq=r3)
  (br3:ki P (.int .u32 0) r3=some [⟨p.wg,1,none⟩]) (vr3:bn P (.int .u32 1) none r3=some ⟨s1,#[dL .disable,bV ⟨p.wg,1,none⟩,dS ⟨p.wg,1,none⟩,dL .enable],[⟨p.wg,1,none⟩,⟨p.wg,1,none⟩],[],some (⟨p.wg,1,none⟩,.int .u32 0)⟩)
  (or3:r3.offers=none) (ms1:mute P 16 s1=true) (Ts:aL P 16 s1=WH) (vw1:bn P (.int .u64 0) none WH=some ⟨Zn,#[bV ⟨p.wg,0,none⟩],[⟨p.wg,0,none⟩],[],none⟩) (mw1:mute P 11 Zn=true) (aw1:aL P 11 Zn=WI)
  (qw2:bU P WI=some (Qe,#[dL .enable])) (mw2:mute P 3 Qe=true) (aw2:aL P 3 Qe=w3) (vw3:bn P undef (some (eW,2)) w3=some ⟨w4,#[],[],[p.wg,p.wg],none⟩) (qw4:bU P w4=some (w5,#[dL (.acquire ⟨p.wg,0,none⟩)])) (mw5:mute P 10 w5=true) (aw5:aL P 10 w5=gR)
  (he:p.eW=eW) (hA:lP γ p n0) (K:∀γ1 w1 ah w',Mv γ w γ1 w1→za p n0 w1→RM γ1.idle w1 ah w'→MP (sys P) Q false 0 ah w' gR):MP (sys P) Q false 1 γ w r1:=by
 refine .rk (vS vr1).1 fun γ1 w1 t1 j1 h1 jF sJ=>?_;have A1:=hA.rely h1;have x1:=jF.phase p A1.ph;refine⟨_,_,_,γ1,false,vr1,fun a ha=>(by cases ha),fun r hr=>?_,jF.nil,fun k' _=>(sys P).refl k' γ1 w1,?_⟩
 ·have:p.wg=r:=NV hr
  rw[←this,←he];exact nI x1.wg
 refine .said qr2 fun cZ w2 t2 j2 h2 nj yS=>?_;have A2:=A1.rely h2;have x2:=nj.phase p A2.ph;obtain⟨u1,u2⟩:=mM (fn:=r2.frame.fn) (pos:=r2.frame.place) nj (Wy (o:=1) x2.sh (nj.cX _ x2.sh));refine⟨cZ,false,u1,u2,?_⟩;have M2:=(Mv.of h1).trans (Mv.of h2);clear h1 jF sJ A1 x1 u1 u2 h2 nj x2 yS;have aft:∀vI w5,gZ vI p 0 n0→vI.v p=0→Mv γ w vI w5→MP (sys P) Q false 1 vI w5 s1:=by
  intro vI w5 A5 z5 M5;refine mS (n:=15) ms1 fun tU w6 h6=>?_;rw[Ts];have A6:=A5.rely h6;have z6:tU.v p=0:=by have:=kY A5 h6;omega
  refine .rk (vS vw1).1 fun AO w7 t7 j7 h7 AP Wm=>?_;have A7:=A6.rely h7;have x7:=AP.phase p A7.ph;have z7:AO.v p=0:=by have:=kY A6 h7;omega
  have SV:=x7.wg;rw[A7.wm,z7]at SV;have aa5:w7.heap[p.wg]?=some (cD p.eW 0 0):=by
   rw[SV];show some (cD p.eW (((0:Nat):Int)*bK) 0)=_
   rw[Int.natCast_zero,Int.zero_mul]
  obtain⟨u1,u2⟩:=mM (fn:=WH.frame.fn) (pos:=WH.frame.place) AP (qI (o:=0) x7.sh (AP.cX _ x7.sh));refine⟨_,_,_,AO,false,vw1,fun a ha=>(NU ha)▸iO aa5,fun r hr=>(by cases hr),u1,u2,?_⟩
  refine mS (n:=10) mw1 fun fw w8 h8=>?_;rw[aw1];have A8:=A7.rely h8;have z8:fw.v p=0:=by have:=kY A7 h8;omega
  refine .said qw2 fun SX w9 t9 j9 h9 hJ9 hd9=>?_;have A9:=A8.rely h9;have z9:SX.v p=0:=by have:=kY A8 h9;omega
  obtain⟨u3,u4⟩:=mM (fn:=WI.frame.fn) (pos:=WI.frame.place) hJ9 (eV (e:=dL .enable) rfl);refine⟨SX,false,u3,u4,mS (n:=2) mw2 fun aa6 w10 rr=>?_⟩
  rw[aw2];have A10:=A9.rely rr;have z10:aa6.v p=0:=by have:=kY A9 rr;omega
  refine B6 vw3 qw4 (n:=9) mw5 aw5 he A10 z10 fun ua Dv ah w' hM qc hR=>K ua Dv ah w' ?_ qc hR
  exact(((((M5.trans (Mv.of h6)).trans (Mv.of h7)).trans (Mv.of h8)).trans (Mv.of h9)).trans (Mv.of rr)).trans hM
 have rest:∀lj w3,RM cZ w2 lj w3→MP (sys P) Q true 1 lj w3 r3:=by
  intro lj w3g h3;have A3:=A2.rely h3;refine .mk (vS vr3).1 (fun _=>or3) (fun _ ff Tu t4 j4 h4 ll PC YX=>?_) fun ff Tu t4 j4 h4 ll PC sH=>?_
  ·have A4:=A3.rely (ia h4)
   have x4:=ll.phase p A4.ph;have Ye:ff.wm≠.rel:=YX
   have nJ:=x4.wg;have SW:yP ff.wm=0:=by
    cases e:ff.wm with
    |rel=>exact absurd e Ye
    |_=>rfl
   rw[SW]at nJ;refine⟨AQ br3 Tu fun a ha=>?_,?_⟩
   ·have:a=⟨p.wg,1,none⟩:=by simpa using ha
    rw[this];exact(vH nJ).1
   ·cases e:ff.wm with
    |rel=>exact absurd e Ye
    |op=>exact absurd e A4.wm
    |reg=>
     obtain⟨e1,e2⟩:=x4.reg e;unfold Gh.v at e2;rw[e1]at e2;obtain⟨k,k1,k2,k3⟩:=FT (by simpa using e2)
     have SL:=x4.j0;have ej:=ll.j;exact⟨k,by omega,by omega,fun hg=>k3 hg.1⟩
    |la k=>
     obtain⟨_,k1,k2,_⟩:=x4.la k (.inl e);have ej:=ll.j;exact⟨k,by omega,by omega,jl e⟩
    |lb k=>
     obtain⟨_,k1,k2,_⟩:=x4.la k (.inr e);have ej:=ll.j;exact⟨k,by omega,by omega,pY e⟩
  ·have A4:=A3.rely (ia h4)
   have x4:=ll.phase p A4.ph;have hrel:ff.wm= .rel:=Classical.not_not.1 (sH rfl)
   have nJ:=x4.wg;rw[hrel]at nJ;obtain⟨PM,s2,s3⟩:=Y9 (w1:=Tu.setCell ⟨p.wg,1,none⟩ (.int .u32 0)) (fn:=r3.frame.fn) (pos:=r3.frame.place) (es:= #[dL .disable,bV ⟨p.wg,1,none⟩,dS ⟨p.wg,1,none⟩,dL .enable]) ll A4.ph hrel ⟨rfl,rfl,rfl⟩ b9 iC (FV nJ 0) fun e he=>by
    have hB:=ll.cX _ x4.sh;simp at he
    rcases he with rfl|rfl|rfl|rfl
    ·exact eV rfl
    ·exact qI x4.sh hB
    ·exact Dr x4.sh hB
    ·exact eV rfl
   refine⟨.go ⟨s1,_,_,_⟩ false,⟨(vS vr3).2 true Tu (fun a ha=>(FW ha)▸vH nJ) (fun r hr=>(by cases hr)),s2,s3⟩,fun x b' e=>?_,fun x b' e=>(by cases e)⟩
   cases e;have A5:gZ (ff.eR ff.st .op) p 0 n0:=⟨A4.ph,rfl,A4.extra,A4.j⟩
   have M5:Mv γ w (ff.eR ff.st .op) (Tu.setCell ⟨p.wg,1,none⟩ (.int .u32 0)):=((M2.trans (Mv.of h3)).trans (Mv.of (ia h4))).trans (Ds _ x4.sh rfl rfl rfl rfl rfl)
   have z5:(ff.eR ff.st .op).v p=0:=PM
   exact aft _ _ A5 z5 M5
 refine MP.mute (n:=22) mr2 fun lj w3g h3=>⟨true,?_⟩
 rw[ar2];exact rest lj w3g (ia h3)
theorem Qf {T:Type}{g0 g1 g2 gR:Goroutine}{wlG l1:T→Goroutine}{l2:T→Nat→Goroutine}{c1:T→Nat→Goroutine}{c2:T→Nat→Bool→Goroutine}{eW:TypeId}{p:Ph}{n0:Nat}{tm0:T}
  (m0:mute P 3 g0=true) (a0:aL P 3 g0=g1) (q1:bU P g1=some (g2,#[dL .disable])) (m2:mute P 3 g2=true) (a2:aL P 3 g2=wlG tm0)
  (ml:∀tm,mute P 16 (wlG tm)=true) (al:∀tm,aL P 16 (wlG tm)=l1 tm)
  (vl:∀tm v,v≤5→bn P (.int .u64 (a_ .op v)) none (l1 tm)=some ⟨l2 tm v,#[bV ⟨p.wg,0,none⟩],[⟨p.wg,0,none⟩],[],none⟩)
  (zero:∀tm,mute P 31 (l2 tm 0)=true∧∃Hq z2 z3 z4,bU P (aL P 31 (l2 tm 0))=some (Hq,#[dL .enable])∧mute P 3 Hq=true∧aL P 3 Hq=z2∧bn P undef (some (eW,2)) z2=some ⟨z3,#[],[],[p.wg,p.wg],none⟩∧
   bU P z3=some (z4,#[dL (.acquire ⟨p.wg,0,none⟩)])∧mute P 20 z4=true∧aL P 20 z4=gR)
  (mc:∀tm v,1≤v→v≤5→mute P 48 (l2 tm v)=true∧aL P 48 (l2 tm v)=c1 tm v)
  (aa7:∀tm v u,1≤v→v≤5→u<v→bn P (.int .u64 (a_ .op u)) (some (eW,2)) (c1 tm v)=some ⟨c2 tm v false,#[bV ⟨p.wg,0,none⟩],[⟨p.wg,0,none⟩,⟨p.wg,0,none⟩],[p.wg],none⟩)
  (WJ:∀tm v,1≤v→v≤5→mute P 9 (c2 tm v false)=true∧∃tm',aL P 9 (c2 tm v false)=wlG tm')
  (hit:∀tm v,1≤v→v≤5→bn P (.int .u64 (a_ .op v)) (some (eW,2)) (c1 tm v)=some ⟨c2 tm v true,#[bV ⟨p.wg,0,none⟩,dS ⟨p.wg,0,none⟩],[⟨p.wg,0,none⟩,⟨p.wg,0,none⟩,⟨p.wg,0,none⟩],[p.wg],some (⟨p.wg,0,none⟩,.int .u64 (a_ .reg v))⟩)
  (reg:∀tm v,1≤v→v≤5→mute P 19 (c2 tm v true)=true∧∀γ w,lP γ p n0→(∀γ1 w1 ah w',Mv γ w γ1 w1→za p n0 w1→RM γ1.idle w1 ah w'→MP (sys P) Q false 0 ah w' gR)→MP (sys P) Q false 1 γ w (aL P 19 (c2 tm v true)))
  (he:p.eW=eW) (hA:gZ γ p 0 n0) (K:∀γ1 w1 ah w',Mv γ w γ1 w1→za p n0 w1→RM γ1.idle w1 ah w'→MP (sys P) Q false 0 ah w' gR):MP (sys P) Q false 0 γ w g0:=by
 have loop:∀(m:Nat) (γ:Gh) (w:World) (tm:T),gZ γ p 0 n0→γ.v p≤m→m≤5→(∀γ1 w1 ah w',Mv γ w γ1 w1→za p n0 w1→RM γ1.idle w1 ah w'→MP (sys P) Q false 0 ah w' gR)→MP (sys P) Q false 1 γ w (wlG tm):=by
  intro m;induction m using Nat.strongRecOn with
  |ind m ih=>
   intro γ w tm hA hm hm5 K;refine mS (n:=15) (ml tm) fun γ1 w1 h1=>?_;rw[al];have A1:=hA.rely h1;have e1:γ1.v p≤m:=Nat.le_trans (kY hA h1) hm
   refine .rk (vS (vl tm 0 (by omega))).1 fun cZ w2 t2 j2 h2 nj yS=>?_
   have A2:=A1.rely h2;have x2:=nj.phase p A2.ph;have e2:cZ.v p≤m:=Nat.le_trans (kY A1 h2) e1
   have fu:=x2.wg;rw[A2.wm]at fu;obtain⟨u1,u2⟩:=mM (fn:=(l1 tm).frame.fn) (pos:=(l1 tm).frame.place) nj (qI (o:=0) x2.sh (nj.cX _ x2.sh));refine⟨_,_,_,cZ,false,vl tm (cZ.v p) (by omega),fun a ha=>(NU ha)▸iO fu,fun r hr=>(by cases hr),u1,u2,?_⟩
   have M2:=(Mv.of h1).trans (Mv.of h2);generalize hv:cZ.v p=v at*;show MP (sys P) Q false 1 cZ w2 (l2 tm v)
   rcases Nat.eq_zero_or_pos v with rfl|dH
   ·obtain⟨k1,Hq,z2,z3,z4,k2,k3,k4,k5,k6,k7,k8⟩:=zero tm
    refine mS (n:=30) k1 fun lj w3 h3=>?_;have A3:=A2.rely h3;have e3:lj.v p=0:=by have:=kY A2 h3;omega
    refine .said k2 fun ff w4 t4 j4 h4 ll PC=>?_;have A4:=A3.rely h4;have e4:ff.v p=0:=by have:=kY A3 h4;omega
    obtain⟨u3,u4⟩:=mM (fn:=(aL P 31 (l2 tm 0)).frame.fn) (pos:=(aL P 31 (l2 tm 0)).frame.place) ll (eV (e:=dL .enable) rfl);refine⟨ff,false,u3,u4,mS (n:=2) k3 fun vI w5 h5=>?_⟩
    rw[k4];have A5:=A4.rely h5;have e5:vI.v p=0:=by have:=kY A4 h5;omega
    refine B6 k5 k6 (n:=19) k7 k8 he A5 e5 fun ua Dv ah w' hM qc hR=>K ua Dv ah w' ?_ qc hR
    exact(((M2.trans (Mv.of h3)).trans (Mv.of h4)).trans (Mv.of h5)).trans hM
   ·obtain⟨k1,k2⟩:=mc tm v dH (by omega)
    refine mS (n:=47) k1 fun lj w3 h3=>?_;rw[k2];have A3:=A2.rely h3;have e3:lj.v p≤v:=by have:=kY A2 h3;omega
    refine .rk (vS (hit tm v dH (by omega))).1 fun ff w4 t4 j4 h4 ll PC=>?_
    have A4:=A3.rely h4;have e4:ff.v p≤v:=by have:=kY A3 h4;omega
    have x4:=ll.phase p A4.ph;have nJ:=x4.wg;rw[A4.wm]at nJ;have hB:=ll.cX _ x4.sh;have M4:=(M2.trans (Mv.of h3)).trans (Mv.of h4);have shp:∀r∈[p.wg],w4.shape? r=some (eW,2):=fun r hr=>by
     have:p.wg=r:=(by simpa using hr:r=p.wg).symm
     rw[←this,←he];exact nI nJ
    by_cases PM:ff.v p=v
    ·rw[PM]at nJ
     obtain⟨s1,s2⟩:=Y8 (w1:=w4.setCell ⟨p.wg,0,none⟩ (.int .u64 (a_ .reg v))) (fn:=(c1 tm v).frame.fn) (pos:=(c1 tm v).frame.place) (es:= #[bV ⟨p.wg,0,none⟩,dS ⟨p.wg,0,none⟩]) ll A4.ph A4.wm A4.extra (by omega) ⟨rfl,rfl,rfl⟩ b9 iC (by rw[PM];exact tT nJ _) fun e he=>by
      simp at he
      rcases he with rfl|rfl
      ·exact qI x4.sh hB
      ·exact Dr x4.sh hB
     refine⟨_,_,_,_,false,hit tm v dH (by omega),fun a ha=>?_,shp,s1,s2,?_⟩
     ·have:a=⟨p.wg,0,none⟩:=by simpa using ha
      rw[this];exact iO nJ
     ·obtain⟨k3,k4⟩:=reg tm v dH (by omega)
      have A5:lP (ff.eR ff.st .reg) p n0:=⟨A4.ph,nofun,A4.extra,A4.j⟩
      have M5:Mv γ w (ff.eR ff.st .reg) (w4.setCell ⟨p.wg,0,none⟩ (.int .u64 (a_ .reg v))):=M4.trans (Ds _ x4.sh rfl rfl rfl rfl rfl)
      refine mS (n:=18) k3 fun tU w6 h6=>?_;exact k4 tU w6 (A5.rely h6) fun ua Dv ah w' hM qc hR=>K ua Dv ah w' ((M5.trans (Mv.of h6)).trans hM) qc hR
    ·obtain⟨s1,s2⟩:=mM (fn:=(c1 tm v).frame.fn) (pos:=(c1 tm v).frame.place) ll (qI (o:=0) x4.sh hB)
     refine⟨_,_,_,ff,false,aa7 tm v (ff.v p) dH (by omega) (by omega),fun a ha=>(FW ha)▸iO nJ,shp,s1,s2,?_⟩
     obtain⟨k3,tm',k4⟩:=WJ tm v dH (by omega)
     refine mS (n:=8) k3 fun vI w5 h5=>?_;rw[k4];refine ih (v-1) (by omega) vI w5 tm' (A4.rely h5) ?_ (by omega) fun ua Dv ah w' hM qc hR=>K ua Dv ah w' ((M4.trans (Mv.of h5)).trans hM) qc hR
     have:=kY A4 h5
     omega
 refine mS (n:=2) m0 fun γ1 w1 h1=>?_;rw[a0];have A1:=hA.rely h1;refine .said q1 fun cZ w2 t2 j2 h2 nj yS=>?_;have A2:=A1.rely h2;have x2:=nj.phase p A2.ph;have AI:cZ.v p≤5:=by
  have h5:=xU (st:=cZ.st) (j0:=p.j0) (m:=cZ.j-p.j0);have h6:=x2.jn;have h7:=x2.n5;unfold Gh.v;omega
 obtain⟨r1,r2⟩:=mM (fn:=g1.frame.fn) (pos:=g1.frame.place) nj (eV (e:=dL .disable) rfl);refine⟨cZ,false,r1,r2,mS (n:=2) m2 fun lj w3 h3=>?_⟩
 rw[a2];refine loop 5 lj w3 tm0 (A2.rely h3) (by have:=kY A2 h3;omega) (Nat.le_refl _) fun ua Dv ah w' hM qc hR=>K ua Dv ah w' ((((Mv.of h1).trans (Mv.of h2)).trans (Mv.of h3)).trans hM) qc hR
end
end Go.Proofs.YtlhohdjniaebbaaGreat.Sr
