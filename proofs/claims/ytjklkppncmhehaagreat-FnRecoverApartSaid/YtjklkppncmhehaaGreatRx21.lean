/-
What is proved: the starter's ways through Add and Wait at the program ('add_prog', 'wait_prog'). Conditions: those that each theorem states.
-/
import Derived.Test.YtjklkppncmhehaaGreatRx20
import Derived.Test.YtjklkppncmhehaaGreatRx13
set_option linter.unusedVariables false
set_option linter.unusedSimpArgs false
namespace Go.Proofs.YtjklkppncmhehaaGreat.Sr
open Go Go.Conc Go.ConcN
theorem xo:aW .op 0=0:=by simp[aW,bJ]
theorem VT:((1:Nat):Int)*bJ=4294967296:=by simp[bJ]
theorem qT:aW .op 1=4294967296:=by simp[aW,bJ]
theorem Zl:aW .cp 1=4294967297:=by simp[aW,bJ]
theorem VU:((2:Nat):Int)*bJ=8589934592:=by simp[bJ]
theorem sM:aW .op 2=8589934592:=by simp[aW,bJ]
theorem Zm:aW .cp 2=8589934593:=by simp[aW,bJ]
theorem VV:((3:Nat):Int)*bJ=12884901888:=by simp[bJ]
theorem uN:aW .op 3=12884901888:=by simp[aW,bJ]
theorem Zn:aW .cp 3=12884901889:=by simp[aW,bJ]
theorem VW:((4:Nat):Int)*bJ=17179869184:=by simp[bJ]
theorem xp:aW .op 4=17179869184:=by simp[aW,bJ]
theorem Zo:aW .cp 4=17179869185:=by simp[aW,bJ]
theorem VX:((5:Nat):Int)*bJ=21474836480:=by simp[bJ]
theorem Cs:aW .op 5=21474836480:=by simp[aW,bJ]
theorem Zp:aW .cp 5=21474836481:=by simp[aW,bJ]
section
variable {Q:Gh→World→Trace→Nat→Outcome→World→Prop}{γ:Gh}{w:World}{p:Ph}{n0:Nat}(c:Frame)(cs:List Frame)
def uO (P:Program)(wg:Nat)(c:Frame)(cs:List Frame)(v:Nat):Goroutine:=qq P wg c cs ((v:Int)*bJ)
theorem Lk (wg:Nat):uO Tryz.prog wg c cs 1=qq Tryz.prog wg c cs 4294967296:=by unfold uO;rw[VT]
theorem Ll (wg:Nat):uO Tryz.prog wg c cs 2=qq Tryz.prog wg c cs 8589934592:=by unfold uO;rw[VU]
theorem Lm (wg:Nat):uO Tryz.prog wg c cs 3=qq Tryz.prog wg c cs 12884901888:=by unfold uO;rw[VV]
theorem Ln (wg:Nat):uO Tryz.prog wg c cs 4=qq Tryz.prog wg c cs 17179869184:=by unfold uO;rw[VW]
theorem Lo (wg:Nat):uO Tryz.prog wg c cs 5=qq Tryz.prog wg c cs 21474836480:=by unfold uO;rw[VX]
theorem UU (v:Nat)(h:v≤4):bn Tryz.prog (.int .u64 (aW .op v)) none (KN Tryz.prog p.wg c cs)=some ⟨uO Tryz.prog p.wg c cs (v+1),#[bR ⟨p.wg,0,none⟩,ew ⟨p.wg,0,none⟩],[⟨p.wg,0,none⟩,⟨p.wg,0,none⟩],[],some (⟨p.wg,0,none⟩,.int .u64 (((v+1:Nat):Int)*bJ))⟩:=by
 obtain rfl|rfl|rfl|rfl|rfl:v=0∨v=1∨v=2∨v=3∨v=4:=by omega
 ·rw[xo,Lk,VT];exact K5 p.wg c cs
 ·rw[qT,Ll,VU];exact K6 p.wg c cs
 ·rw[sM,Lm,VV];exact K7 p.wg c cs
 ·rw[uN,Ln,VW];exact K8 p.wg c cs
 ·rw[xp,Lo,VX];exact K9 p.wg c cs
theorem UW (v:Nat)(h1:2≤v)(h:v≤5):mute Tryz.prog 87 (uO Tryz.prog p.wg c cs v)=true:=by
 obtain rfl|rfl|rfl|rfl:v=2∨v=3∨v=4∨v=5:=by omega
 ·rw[Ll];exact GB p.wg c cs
 ·rw[Lm];exact GC p.wg c cs
 ·rw[Ln];exact GD p.wg c cs
 ·rw[Lo];exact GG p.wg c cs
theorem UX (v:Nat)(h1:2≤v)(h:v≤5):∃g9,bX Tryz.prog (aN Tryz.prog 87 (uO Tryz.prog p.wg c cs v))=some (g9,#[dX .enable])∧mute Tryz.prog 1 g9=true∧aN Tryz.prog 1 g9=lZ c cs:=by
 obtain rfl|rfl|rfl|rfl:v=2∨v=3∨v=4∨v=5:=by omega
 ·rw[Ll];exact OW p.wg c cs
 ·rw[Lm];exact OX p.wg c cs
 ·rw[Ln];exact OY p.wg c cs
 ·rw[Lo];exact OZ p.wg c cs
theorem Pv (he:p.eW=191)(hA:iE γ p 0 n0)(hn:n0-p.j0<p.n)(K:∀ah w',Mv γ w ah w'→iE ah p 1 n0→MP (sys Tryz.prog) Q false 0 ah w' (lZ c cs)):MP (sys Tryz.prog) Q false 0 γ w (UL Tryz.prog p.wg c cs):=
 RO (g4:=uO Tryz.prog p.wg c cs) (OS p.wg c cs) rfl (RP p.wg c cs) (OT p.wg c cs) rfl (UU c cs)
  (by rw[Lk];exact OU p.wg c cs) (by rw[Lk];rfl) (Pr p.wg c cs) (UM p.wg c cs) (OV p.wg c cs) rfl (UN p.wg c cs) (UW c cs) (UX c cs) he hA hn K
def BG (P:Program)(wg:Nat)(c:Frame)(cs:List Frame)(tm:Nat→Value)(v:Nat):Goroutine:=sj P wg tm c cs (aW .op v)
def tH (P:Program)(wg:Nat)(c:Frame)(cs:List Frame)(tm:Nat→Value)(v:Nat):Goroutine:=nh P wg tm c cs (aW .op v)
def qt (P:Program)(wg:Nat)(c:Frame)(cs:List Frame)(tm:Nat→Value)(v:Nat)(b:Bool):Goroutine:=eU P wg tm c cs (aW .op v) b
theorem R0 (tm:Nat→Value)(v:Nat)(h:v≤5):bn Tryz.prog (.int .u64 (aW .op v)) none (DS Tryz.prog p.wg tm c cs)=some ⟨BG Tryz.prog p.wg c cs tm v,#[bR ⟨p.wg,0,none⟩],[⟨p.wg,0,none⟩],[],none⟩:=by
 unfold BG;obtain rfl|rfl|rfl|rfl|rfl|rfl:v=0∨v=1∨v=2∨v=3∨v=4∨v=5:=by omega
 ·rw[xo];exact Hq p.wg tm c cs
 ·rw[qT];exact Hr p.wg tm c cs
 ·rw[sM];exact Hs p.wg tm c cs
 ·rw[uN];exact Ht p.wg tm c cs
 ·rw[xp];exact Hu p.wg tm c cs
 ·rw[Cs];exact Hv p.wg tm c cs
theorem Lp (tm:Nat→Value):mute Tryz.prog 31 (BG Tryz.prog p.wg c cs tm 0)=true∧∃HP z2 z3 z4,bX Tryz.prog (aN Tryz.prog 31 (BG Tryz.prog p.wg c cs tm 0))=some (HP,#[dX .enable])∧mute Tryz.prog 3 HP=true∧aN Tryz.prog 3 HP=z2∧bn Tryz.prog undef (some (191,2)) z2=some ⟨z3,#[],[],[p.wg,p.wg],none⟩∧
   bX Tryz.prog z3=some (z4,#[dX (.acquire ⟨p.wg,0,none⟩)])∧mute Tryz.prog 20 z4=true∧aN Tryz.prog 20 z4=lZ c cs:=by
 have e:BG Tryz.prog p.wg c cs tm 0=sj Tryz.prog p.wg tm c cs 0:=by unfold BG;rw[xo]
 rw[e];exact⟨Pb p.wg tm c cs,_,_,_,_,UQ p.wg tm c cs,Pc p.wg tm c cs,rfl,Ps p.wg tm c cs,RV p.wg tm c cs,Pd p.wg tm c cs,RX p.wg tm c cs⟩
theorem R1 (tm:Nat→Value)(v:Nat)(h1:1≤v)(h:v≤5):mute Tryz.prog 48 (BG Tryz.prog p.wg c cs tm v)=true∧aN Tryz.prog 48 (BG Tryz.prog p.wg c cs tm v)=tH Tryz.prog p.wg c cs tm v:=by
 refine⟨?_,rfl⟩;unfold BG;obtain rfl|rfl|rfl|rfl|rfl:v=1∨v=2∨v=3∨v=4∨v=5:=by omega
 ·rw[qT];exact GH p.wg tm c cs
 ·rw[sM];exact GP p.wg tm c cs
 ·rw[uN];exact GZ p.wg tm c cs
 ·rw[xp];exact G9 p.wg tm c cs
 ·rw[Cs];exact Hh p.wg tm c cs
theorem DT (tm:Nat→Value)(u:Nat)(h:u<1):bn Tryz.prog (.int .u64 (aW .op u)) (some (191,2)) (tH Tryz.prog p.wg c cs tm 1)=some ⟨qt Tryz.prog p.wg c cs tm 1 false,#[bR ⟨p.wg,0,none⟩],[⟨p.wg,0,none⟩,⟨p.wg,0,none⟩],[p.wg],none⟩:=by
 unfold tH qt;rw[qT];obtain rfl:u=0:=by omega
 rw[xo];exact Bp p.wg tm c cs
theorem DU (tm:Nat→Value)(u:Nat)(h:u<2):bn Tryz.prog (.int .u64 (aW .op u)) (some (191,2)) (tH Tryz.prog p.wg c cs tm 2)=some ⟨qt Tryz.prog p.wg c cs tm 2 false,#[bR ⟨p.wg,0,none⟩],[⟨p.wg,0,none⟩,⟨p.wg,0,none⟩],[p.wg],none⟩:=by
 unfold tH qt;rw[sM];obtain rfl|rfl:u=0∨u=1:=by omega
 ·rw[xo];exact Br p.wg tm c cs
 ·rw[qT];exact Bs p.wg tm c cs
theorem DV (tm:Nat→Value)(u:Nat)(h:u<3):bn Tryz.prog (.int .u64 (aW .op u)) (some (191,2)) (tH Tryz.prog p.wg c cs tm 3)=some ⟨qt Tryz.prog p.wg c cs tm 3 false,#[bR ⟨p.wg,0,none⟩],[⟨p.wg,0,none⟩,⟨p.wg,0,none⟩],[p.wg],none⟩:=by
 unfold tH qt;rw[uN];obtain rfl|rfl|rfl:u=0∨u=1∨u=2:=by omega
 ·rw[xo];exact Bt p.wg tm c cs
 ·rw[qT];exact Bu p.wg tm c cs
 ·rw[sM];exact Bv p.wg tm c cs
theorem DW (tm:Nat→Value)(u:Nat)(h:u<4):bn Tryz.prog (.int .u64 (aW .op u)) (some (191,2)) (tH Tryz.prog p.wg c cs tm 4)=some ⟨qt Tryz.prog p.wg c cs tm 4 false,#[bR ⟨p.wg,0,none⟩],[⟨p.wg,0,none⟩,⟨p.wg,0,none⟩],[p.wg],none⟩:=by
 unfold tH qt;rw[xp];obtain rfl|rfl|rfl|rfl:u=0∨u=1∨u=2∨u=3:=by omega
 ·rw[xo];exact Bw p.wg tm c cs
 ·rw[qT];exact Bx p.wg tm c cs
 ·rw[sM];exact By p.wg tm c cs
 ·rw[uN];exact Bz p.wg tm c cs
theorem DX (tm:Nat→Value)(u:Nat)(h:u<5):bn Tryz.prog (.int .u64 (aW .op u)) (some (191,2)) (tH Tryz.prog p.wg c cs tm 5)=some ⟨qt Tryz.prog p.wg c cs tm 5 false,#[bR ⟨p.wg,0,none⟩],[⟨p.wg,0,none⟩,⟨p.wg,0,none⟩],[p.wg],none⟩:=by
 unfold tH qt;rw[Cs];obtain rfl|rfl|rfl|rfl|rfl:u=0∨u=1∨u=2∨u=3∨u=4:=by omega
 ·rw[xo];exact BB p.wg tm c cs
 ·rw[qT];exact BC p.wg tm c cs
 ·rw[sM];exact BD p.wg tm c cs
 ·rw[uN];exact BE p.wg tm c cs
 ·rw[xp];exact BF p.wg tm c cs
theorem Lq (tm:Nat→Value)(v u:Nat)(h1:1≤v)(h5:v≤5)(h:u<v):bn Tryz.prog (.int .u64 (aW .op u)) (some (191,2)) (tH Tryz.prog p.wg c cs tm v)=some ⟨qt Tryz.prog p.wg c cs tm v false,#[bR ⟨p.wg,0,none⟩],[⟨p.wg,0,none⟩,⟨p.wg,0,none⟩],[p.wg],none⟩:=by
 obtain rfl|rfl|rfl|rfl|rfl:v=1∨v=2∨v=3∨v=4∨v=5:=by omega
 ·exact DT c cs tm u h
 ·exact DU c cs tm u h
 ·exact DV c cs tm u h
 ·exact DW c cs tm u h
 ·exact DX c cs tm u h
theorem DY (tm:Nat→Value)(v:Nat)(h1:1≤v)(h5:v≤5):mute Tryz.prog 9 (qt Tryz.prog p.wg c cs tm v false)=true∧∃bd,aN Tryz.prog 9 (qt Tryz.prog p.wg c cs tm v false)=wl Tryz.prog p.wg bd c cs:=by
 unfold qt;obtain rfl|rfl|rfl|rfl|rfl:v=1∨v=2∨v=3∨v=4∨v=5:=by omega
 ·rw[qT];exact⟨GI p.wg tm c cs,_,GJ p.wg tm c cs⟩
 ·rw[sM];exact⟨GQ p.wg tm c cs,_,GR p.wg tm c cs⟩
 ·rw[uN];exact⟨G1 p.wg tm c cs,_,G3 p.wg tm c cs⟩
 ·rw[xp];exact⟨G_ p.wg tm c cs,_,G' p.wg tm c cs⟩
 ·rw[Cs];exact⟨Hi p.wg tm c cs,_,Hj p.wg tm c cs⟩
theorem Pw (tm:Nat→Value)(v:Nat)(h1:1≤v)(h5:v≤5):bn Tryz.prog (.int .u64 (aW .op v)) (some (191,2)) (tH Tryz.prog p.wg c cs tm v)=some ⟨qt Tryz.prog p.wg c cs tm v true,#[bR ⟨p.wg,0,none⟩,ew ⟨p.wg,0,none⟩],[⟨p.wg,0,none⟩,⟨p.wg,0,none⟩,⟨p.wg,0,none⟩],[p.wg],some (⟨p.wg,0,none⟩,.int .u64 (aW .cp v))⟩:=by
 unfold tH qt;obtain rfl|rfl|rfl|rfl|rfl:v=1∨v=2∨v=3∨v=4∨v=5:=by omega
 ·rw[qT,Zl];exact K_ p.wg tm c cs
 ·rw[sM,Zm];exact Lb p.wg tm c cs
 ·rw[uN,Zn];exact Ld p.wg tm c cs
 ·rw[xp,Zo];exact Lf p.wg tm c cs
 ·rw[Cs,Zp];exact Lh p.wg tm c cs
theorem mJ {P:Program}{v:Value}{g:Goroutine}{l:List Addr}(h:kH P v g=some l):g.offers=none:=by
 unfold kH at h
 cases ho:gu P g with
 |none=>rw[ho]at h;cases h
 |some s=>exact(yZ ho true default).2.1
theorem W7 (wg:Nat)(tm:Nat→Value):(kW Tryz.prog wg tm c cs 4294967296).offers=none:=(mJ (uH wg tm c cs))
theorem W8 (wg:Nat)(tm:Nat→Value):(kW Tryz.prog wg tm c cs 8589934592).offers=none:=(mJ (uI wg tm c cs))
theorem W9 (wg:Nat)(tm:Nat→Value):(kW Tryz.prog wg tm c cs 12884901888).offers=none:=(mJ (uJ wg tm c cs))
theorem W_ (wg:Nat)(tm:Nat→Value):(kW Tryz.prog wg tm c cs 17179869184).offers=none:=(mJ (uK wg tm c cs))
theorem Xa (wg:Nat)(tm:Nat→Value):(kW Tryz.prog wg tm c cs 21474836480).offers=none:=(mJ (uL wg tm c cs))
theorem HR (tm:Nat→Value)(he:p.eW=191)(hA:mI γ p n0)(K:∀aX w1 ah w',Mv γ w aX w1→zC p n0 w1→RM aX.idle w1 ah w'→MP (sys Tryz.prog) Q false 0 ah w' (lZ c cs)):MP (sys Tryz.prog) Q false 1 γ w (zA Tryz.prog p.wg tm c cs 4294967296):=
 qQ (Hw p.wg tm c cs) (Pe p.wg tm c cs) (GK p.wg tm c cs) rfl (uH p.wg tm c cs) (La p.wg tm c cs) (W7 c cs p.wg tm) (GL p.wg tm c cs) rfl (Hx p.wg tm c cs) (GM p.wg tm c cs) rfl (Pf p.wg tm c cs) (GN p.wg tm c cs) rfl (Hy p.wg tm c cs) (KP p.wg tm c cs) (GO p.wg tm c cs) (KQ p.wg tm c cs) he hA K
theorem HT (tm:Nat→Value)(he:p.eW=191)(hA:mI γ p n0)(K:∀aX w1 ah w',Mv γ w aX w1→zC p n0 w1→RM aX.idle w1 ah w'→MP (sys Tryz.prog) Q false 0 ah w' (lZ c cs)):MP (sys Tryz.prog) Q false 1 γ w (zA Tryz.prog p.wg tm c cs 8589934592):=
 qQ (Hz p.wg tm c cs) (Pg p.wg tm c cs) (GS p.wg tm c cs) rfl (uI p.wg tm c cs) (Lc p.wg tm c cs) (W8 c cs p.wg tm) (GU p.wg tm c cs) rfl (HD p.wg tm c cs) (GW p.wg tm c cs) rfl (Pj p.wg tm c cs) (GX p.wg tm c cs) rfl (HF p.wg tm c cs) (KS p.wg tm c cs) (GY p.wg tm c cs) (KU p.wg tm c cs) he hA K
theorem HU (tm:Nat→Value)(he:p.eW=191)(hA:mI γ p n0)(K:∀aX w1 ah w',Mv γ w aX w1→zC p n0 w1→RM aX.idle w1 ah w'→MP (sys Tryz.prog) Q false 0 ah w' (lZ c cs)):MP (sys Tryz.prog) Q false 1 γ w (zA Tryz.prog p.wg tm c cs 12884901888):=
 qQ (HG p.wg tm c cs) (Pk p.wg tm c cs) (G4 p.wg tm c cs) rfl (uJ p.wg tm c cs) (Le p.wg tm c cs) (W9 c cs p.wg tm) (G5 p.wg tm c cs) rfl (HH p.wg tm c cs) (G6 p.wg tm c cs) rfl (Pm p.wg tm c cs) (G7 p.wg tm c cs) rfl (HI p.wg tm c cs) (KW p.wg tm c cs) (G8 p.wg tm c cs) (KX p.wg tm c cs) he hA K
theorem HV (tm:Nat→Value)(he:p.eW=191)(hA:mI γ p n0)(K:∀aX w1 ah w',Mv γ w aX w1→zC p n0 w1→RM aX.idle w1 ah w'→MP (sys Tryz.prog) Q false 0 ah w' (lZ c cs)):MP (sys Tryz.prog) Q false 1 γ w (zA Tryz.prog p.wg tm c cs 17179869184):=
 qQ (HJ p.wg tm c cs) (Pn p.wg tm c cs) (Ha p.wg tm c cs) rfl (uK p.wg tm c cs) (Lg p.wg tm c cs) (W_ c cs p.wg tm) (Hd p.wg tm c cs) rfl (HK p.wg tm c cs) (He p.wg tm c cs) rfl (Po p.wg tm c cs) (Hf p.wg tm c cs) rfl (HL p.wg tm c cs) (KZ p.wg tm c cs) (Hg p.wg tm c cs) (K0 p.wg tm c cs) he hA K
theorem HW (tm:Nat→Value)(he:p.eW=191)(hA:mI γ p n0)(K:∀aX w1 ah w',Mv γ w aX w1→zC p n0 w1→RM aX.idle w1 ah w'→MP (sys Tryz.prog) Q false 0 ah w' (lZ c cs)):MP (sys Tryz.prog) Q false 1 γ w (zA Tryz.prog p.wg tm c cs 21474836480):=
 qQ (HM p.wg tm c cs) (Pp p.wg tm c cs) (Hk p.wg tm c cs) rfl (uL p.wg tm c cs) (Li p.wg tm c cs) (Xa c cs p.wg tm) (Hl p.wg tm c cs) rfl (HN p.wg tm c cs) (Hm p.wg tm c cs) rfl (Pq p.wg tm c cs) (Hn p.wg tm c cs) rfl (HO p.wg tm c cs) (K3 p.wg tm c cs) (Ho p.wg tm c cs) (K4 p.wg tm c cs) he hA K
theorem Lr (he:p.eW=191)(hA:iE γ p 0 n0)(K:∀aX w1 ah w',Mv γ w aX w1→zC p n0 w1→RM aX.idle w1 ah w'→MP (sys Tryz.prog) Q false 0 ah w' (lZ c cs)):MP (sys Tryz.prog) Q false 0 γ w (DR Tryz.prog p.wg c cs):=by
 refine Pu (T:=Nat→Value) (wlG:=fun tm=>wl Tryz.prog p.wg tm c cs) (l1:=fun tm=>DS Tryz.prog p.wg tm c cs) (l2:=BG Tryz.prog p.wg c cs) (c1:=tH Tryz.prog p.wg c cs) (c2:=qt Tryz.prog p.wg c cs) (tm0:=zz (UO Tryz.prog p.wg c cs)) (O7 p.wg c cs) rfl (RS p.wg c cs) (O_ p.wg c cs) (Pa p.wg c cs)
  (fun tm=>RU p.wg tm c cs) (fun tm=>rfl) (R0 c cs) (Lp c cs) (R1 c cs) (Lq c cs) (DY c cs) (Pw c cs) (fun tm v h1 h5=>?_) he hA K
 unfold qt;obtain rfl|rfl|rfl|rfl|rfl:v=1∨v=2∨v=3∨v=4∨v=5:=by omega
 ·rw[qT];exact⟨KO p.wg tm c cs,fun γ w hA K=>HR c cs tm he hA K⟩
 ·rw[sM];exact⟨KR p.wg tm c cs,fun γ w hA K=>HT c cs tm he hA K⟩
 ·rw[uN];exact⟨KV p.wg tm c cs,fun γ w hA K=>HU c cs tm he hA K⟩
 ·rw[xp];exact⟨KY p.wg tm c cs,fun γ w hA K=>HV c cs tm he hA K⟩
 ·rw[Cs];exact⟨K1 p.wg tm c cs,fun γ w hA K=>HW c cs tm he hA K⟩
end
end Go.Proofs.YtjklkppncmhehaaGreat.Sr
