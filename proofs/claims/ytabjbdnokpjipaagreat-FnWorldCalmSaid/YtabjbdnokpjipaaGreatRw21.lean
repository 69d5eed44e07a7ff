/-
What is proved: the starter's ways through Add and Wait at the program ('add_prog', 'wait_prog'). Conditions: those that each theorem states.
-/
import Derived.Test.YtabjbdnokpjipaaGreatRw20
import Derived.Test.YtabjbdnokpjipaaGreatRw13
set_option linter.unusedVariables false
set_option linter.unusedSimpArgs false
namespace Go.Proofs.YtabjbdnokpjipaaGreat.Sr
open Go Go.Conc Go.ConcN
theorem Ae:bo .op 0=0:=by simp[bo,bW]
theorem abg:((1:Nat):Int)*bW=4294967296:=by simp[bW]
theorem tW:bo .op 1=4294967296:=by simp[bo,bW]
theorem ac7:bo .reg 1=4294967297:=by simp[bo,bW]
theorem abh:((2:Nat):Int)*bW=8589934592:=by simp[bW]
theorem vI:bo .op 2=8589934592:=by simp[bo,bW]
theorem ac8:bo .reg 2=8589934593:=by simp[bo,bW]
theorem abi:((3:Nat):Int)*bW=12884901888:=by simp[bW]
theorem xO:bo .op 3=12884901888:=by simp[bo,bW]
theorem ac9:bo .reg 3=12884901889:=by simp[bo,bW]
theorem abj:((4:Nat):Int)*bW=17179869184:=by simp[bW]
theorem Af:bo .op 4=17179869184:=by simp[bo,bW]
theorem ac_:bo .reg 4=17179869185:=by simp[bo,bW]
theorem abk:((5:Nat):Int)*bW=21474836480:=by simp[bW]
theorem FF:bo .op 5=21474836480:=by simp[bo,bW]
theorem ac':bo .reg 5=21474836481:=by simp[bo,bW]
section
variable {Q:Gh→World→Trace→Nat→Outcome→World→Prop}{γ:Gh}{w:World}{p:Ph}{n0:Nat}(c:Frame)(cs:List Frame)
def xP (P:Program)(wg:Nat)(c:Frame)(cs:List Frame)(v:Nat):Goroutine:=tk P wg c cs ((v:Int)*bW)
theorem PB (wg:Nat):xP Tryz.prog wg c cs 1=tk Tryz.prog wg c cs 4294967296:=by unfold xP;rw[abg]
theorem PC (wg:Nat):xP Tryz.prog wg c cs 2=tk Tryz.prog wg c cs 8589934592:=by unfold xP;rw[abh]
theorem PD (wg:Nat):xP Tryz.prog wg c cs 3=tk Tryz.prog wg c cs 12884901888:=by unfold xP;rw[abi]
theorem PE (wg:Nat):xP Tryz.prog wg c cs 4=tk Tryz.prog wg c cs 17179869184:=by unfold xP;rw[abj]
theorem PF (wg:Nat):xP Tryz.prog wg c cs 5=tk Tryz.prog wg c cs 21474836480:=by unfold xP;rw[abk]
theorem aaq (v:Nat)(h:v≤4):bF Tryz.prog (.int .u64 (bo .op v)) none (OV Tryz.prog p.wg c cs)=some ⟨xP Tryz.prog p.wg c cs (v+1),#[cp ⟨p.wg,0,none⟩,fu ⟨p.wg,0,none⟩],[⟨p.wg,0,none⟩,⟨p.wg,0,none⟩],[],some (⟨p.wg,0,none⟩,.int .u64 (((v+1:Nat):Int)*bW))⟩:=by
 obtain rfl|rfl|rfl|rfl|rfl:v=0∨v=1∨v=2∨v=3∨v=4:=by omega
 ·rw[Ae,PB,abg];exact Pk p.wg c cs
 ·rw[tW,PC,abh];exact Pm p.wg c cs
 ·rw[vI,PD,abi];exact Pn p.wg c cs
 ·rw[xO,PE,abj];exact Po p.wg c cs
 ·rw[Af,PF,abk];exact Pp p.wg c cs
theorem aar (v:Nat)(h1:2≤v)(h:v≤5):mute Tryz.prog 87 (xP Tryz.prog p.wg c cs v)=true:=by
 obtain rfl|rfl|rfl|rfl:v=2∨v=3∨v=4∨v=5:=by omega
 ·rw[PC];exact Kc p.wg c cs
 ·rw[PD];exact Kd p.wg c cs
 ·rw[PE];exact Ke p.wg c cs
 ·rw[PF];exact Kf p.wg c cs
theorem aas (v:Nat)(h1:2≤v)(h:v≤5):∃g9,cn Tryz.prog (aR Tryz.prog 87 (xP Tryz.prog p.wg c cs v))=some (g9,#[ff .enable])∧mute Tryz.prog 1 g9=true∧aR Tryz.prog 1 g9=kM c cs:=by
 obtain rfl|rfl|rfl|rfl:v=2∨v=3∨v=4∨v=5:=by omega
 ·rw[PC];exact TI p.wg c cs
 ·rw[PD];exact TL p.wg c cs
 ·rw[PE];exact TM p.wg c cs
 ·rw[PF];exact TN p.wg c cs
theorem Uc (he:p.eW=181)(hA:jK γ p 0 n0)(hn:n0-p.j0<p.n)(K:∀ai w',Mv γ w ai w'→jK ai p 1 n0→MP (sys Tryz.prog) Q false 0 ai w' (kM c cs)):MP (sys Tryz.prog) Q false 0 γ w (ad0 Tryz.prog p.wg c cs):=
 Xb (g4:=xP Tryz.prog p.wg c cs) (TE p.wg c cs) rfl (Xc p.wg c cs) (TF p.wg c cs) rfl (aaq c cs)
  (by rw[PB];exact TG p.wg c cs) (by rw[PB];rfl) (T9 p.wg c cs) (aam p.wg c cs) (TH p.wg c cs) rfl (aan p.wg c cs) (aar c cs) (aas c cs) he hA hn K
def EG (P:Program)(wg:Nat)(c:Frame)(cs:List Frame)(tm:Nat→Value)(v:Nat):Goroutine:=vn P wg tm c cs (bo .op v)
def wL (P:Program)(wg:Nat)(c:Frame)(cs:List Frame)(tm:Nat→Value)(v:Nat):Goroutine:=o9 P wg tm c cs (bo .op v)
def tn (P:Program)(wg:Nat)(c:Frame)(cs:List Frame)(tm:Nat→Value)(v:Nat)(b:Bool):Goroutine:=gg P wg tm c cs (bo .op v) b
theorem Xk (tm:Nat→Value)(v:Nat)(h:v≤5):bF Tryz.prog (.int .u64 (bo .op v)) none (Ho Tryz.prog p.wg tm c cs)=some ⟨EG Tryz.prog p.wg c cs tm v,#[cp ⟨p.wg,0,none⟩],[⟨p.wg,0,none⟩],[],none⟩:=by
 unfold EG;obtain rfl|rfl|rfl|rfl|rfl|rfl:v=0∨v=1∨v=2∨v=3∨v=4∨v=5:=by omega
 ·rw[Ae];exact K1 p.wg tm c cs
 ·rw[tW];exact K3 p.wg tm c cs
 ·rw[vI];exact K4 p.wg tm c cs
 ·rw[xO];exact K5 p.wg tm c cs
 ·rw[Af];exact K6 p.wg tm c cs
 ·rw[FF];exact K7 p.wg tm c cs
theorem PG (tm:Nat→Value):mute Tryz.prog 31 (EG Tryz.prog p.wg c cs tm 0)=true∧∃Lm z2 z3 z4,cn Tryz.prog (aR Tryz.prog 31 (EG Tryz.prog p.wg c cs tm 0))=some (Lm,#[ff .enable])∧mute Tryz.prog 3 Lm=true∧aR Tryz.prog 3 Lm=z2∧bF Tryz.prog undef (some (181,2)) z2=some ⟨z3,#[],[],[p.wg,p.wg],none⟩∧
   cn Tryz.prog z3=some (z4,#[ff (.acquire ⟨p.wg,0,none⟩)])∧mute Tryz.prog 20 z4=true∧aR Tryz.prog 20 z4=kM c cs:=by
 have e:EG Tryz.prog p.wg c cs tm 0=vn Tryz.prog p.wg tm c cs 0:=by unfold EG;rw[Ae]
 rw[e];exact⟨TS p.wg tm c cs,_,_,_,_,aao p.wg tm c cs,TT p.wg tm c cs,rfl,T_ p.wg tm c cs,Xg p.wg tm c cs,TU p.wg tm c cs,Xh p.wg tm c cs⟩
theorem Xl (tm:Nat→Value)(v:Nat)(h1:1≤v)(h:v≤5):mute Tryz.prog 48 (EG Tryz.prog p.wg c cs tm v)=true∧aR Tryz.prog 48 (EG Tryz.prog p.wg c cs tm v)=wL Tryz.prog p.wg c cs tm v:=by
 refine⟨?_,rfl⟩;unfold EG;obtain rfl|rfl|rfl|rfl|rfl:v=1∨v=2∨v=3∨v=4∨v=5:=by omega
 ·rw[tW];exact Kg p.wg tm c cs
 ·rw[vI];exact Ko p.wg tm c cs
 ·rw[xO];exact Kx p.wg tm c cs
 ·rw[Af];exact KH p.wg tm c cs
 ·rw[FF];exact KR p.wg tm c cs
theorem Hp (tm:Nat→Value)(u:Nat)(h:u<1):bF Tryz.prog (.int .u64 (bo .op u)) (some (181,2)) (wL Tryz.prog p.wg c cs tm 1)=some ⟨tn Tryz.prog p.wg c cs tm 1 false,#[cp ⟨p.wg,0,none⟩],[⟨p.wg,0,none⟩,⟨p.wg,0,none⟩],[p.wg],none⟩:=by
 unfold wL tn;rw[tW];obtain rfl:u=0:=by omega
 rw[Ae];exact Er p.wg tm c cs
theorem Hq (tm:Nat→Value)(u:Nat)(h:u<2):bF Tryz.prog (.int .u64 (bo .op u)) (some (181,2)) (wL Tryz.prog p.wg c cs tm 2)=some ⟨tn Tryz.prog p.wg c cs tm 2 false,#[cp ⟨p.wg,0,none⟩],[⟨p.wg,0,none⟩,⟨p.wg,0,none⟩],[p.wg],none⟩:=by
 unfold wL tn;rw[vI];obtain rfl|rfl:u=0∨u=1:=by omega
 ·rw[Ae];exact Es p.wg tm c cs
 ·rw[tW];exact Et p.wg tm c cs
theorem Hr (tm:Nat→Value)(u:Nat)(h:u<3):bF Tryz.prog (.int .u64 (bo .op u)) (some (181,2)) (wL Tryz.prog p.wg c cs tm 3)=some ⟨tn Tryz.prog p.wg c cs tm 3 false,#[cp ⟨p.wg,0,none⟩],[⟨p.wg,0,none⟩,⟨p.wg,0,none⟩],[p.wg],none⟩:=by
 unfold wL tn;rw[xO];obtain rfl|rfl|rfl:u=0∨u=1∨u=2:=by omega
 ·rw[Ae];exact Eu p.wg tm c cs
 ·rw[tW];exact Ev p.wg tm c cs
 ·rw[vI];exact Ew p.wg tm c cs
theorem Hs (tm:Nat→Value)(u:Nat)(h:u<4):bF Tryz.prog (.int .u64 (bo .op u)) (some (181,2)) (wL Tryz.prog p.wg c cs tm 4)=some ⟨tn Tryz.prog p.wg c cs tm 4 false,#[cp ⟨p.wg,0,none⟩],[⟨p.wg,0,none⟩,⟨p.wg,0,none⟩],[p.wg],none⟩:=by
 unfold wL tn;rw[Af];obtain rfl|rfl|rfl|rfl:u=0∨u=1∨u=2∨u=3:=by omega
 ·rw[Ae];exact Ex p.wg tm c cs
 ·rw[tW];exact Ey p.wg tm c cs
 ·rw[vI];exact Ez p.wg tm c cs
 ·rw[xO];exact EA p.wg tm c cs
theorem Ht (tm:Nat→Value)(u:Nat)(h:u<5):bF Tryz.prog (.int .u64 (bo .op u)) (some (181,2)) (wL Tryz.prog p.wg c cs tm 5)=some ⟨tn Tryz.prog p.wg c cs tm 5 false,#[cp ⟨p.wg,0,none⟩],[⟨p.wg,0,none⟩,⟨p.wg,0,none⟩],[p.wg],none⟩:=by
 unfold wL tn;rw[FF];obtain rfl|rfl|rfl|rfl|rfl:u=0∨u=1∨u=2∨u=3∨u=4:=by omega
 ·rw[Ae];exact EB p.wg tm c cs
 ·rw[tW];exact EC p.wg tm c cs
 ·rw[vI];exact ED p.wg tm c cs
 ·rw[xO];exact EE p.wg tm c cs
 ·rw[Af];exact EF p.wg tm c cs
theorem PH (tm:Nat→Value)(v u:Nat)(h1:1≤v)(h5:v≤5)(h:u<v):bF Tryz.prog (.int .u64 (bo .op u)) (some (181,2)) (wL Tryz.prog p.wg c cs tm v)=some ⟨tn Tryz.prog p.wg c cs tm v false,#[cp ⟨p.wg,0,none⟩],[⟨p.wg,0,none⟩,⟨p.wg,0,none⟩],[p.wg],none⟩:=by
 obtain rfl|rfl|rfl|rfl|rfl:v=1∨v=2∨v=3∨v=4∨v=5:=by omega
 ·exact Hp c cs tm u h
 ·exact Hq c cs tm u h
 ·exact Hr c cs tm u h
 ·exact Hs c cs tm u h
 ·exact Ht c cs tm u h
theorem Hu (tm:Nat→Value)(v:Nat)(h1:1≤v)(h5:v≤5):mute Tryz.prog 9 (tn Tryz.prog p.wg c cs tm v false)=true∧∃tm',aR Tryz.prog 9 (tn Tryz.prog p.wg c cs tm v false)=wl Tryz.prog p.wg tm' c cs:=by
 unfold tn;obtain rfl|rfl|rfl|rfl|rfl:v=1∨v=2∨v=3∨v=4∨v=5:=by omega
 ·rw[tW];exact⟨Kh p.wg tm c cs,_,Ki p.wg tm c cs⟩
 ·rw[vI];exact⟨Kq p.wg tm c cs,_,Kr p.wg tm c cs⟩
 ·rw[xO];exact⟨Ky p.wg tm c cs,_,Kz p.wg tm c cs⟩
 ·rw[Af];exact⟨KI p.wg tm c cs,_,KJ p.wg tm c cs⟩
 ·rw[FF];exact⟨KS p.wg tm c cs,_,KU p.wg tm c cs⟩
theorem Ud (tm:Nat→Value)(v:Nat)(h1:1≤v)(h5:v≤5):bF Tryz.prog (.int .u64 (bo .op v)) (some (181,2)) (wL Tryz.prog p.wg c cs tm v)=some ⟨tn Tryz.prog p.wg c cs tm v true,#[cp ⟨p.wg,0,none⟩,fu ⟨p.wg,0,none⟩],[⟨p.wg,0,none⟩,⟨p.wg,0,none⟩,⟨p.wg,0,none⟩],[p.wg],some (⟨p.wg,0,none⟩,.int .u64 (bo .reg v))⟩:=by
 unfold wL tn;obtain rfl|rfl|rfl|rfl|rfl:v=1∨v=2∨v=3∨v=4∨v=5:=by omega
 ·rw[tW,ac7];exact Pq p.wg tm c cs
 ·rw[vI,ac8];exact Ps p.wg tm c cs
 ·rw[xO,ac9];exact Pu p.wg tm c cs
 ·rw[Af,ac_];exact Pw p.wg tm c cs
 ·rw[FF,ac'];exact Py p.wg tm c cs
theorem oA {P:Program}{v:Value}{g:Goroutine}{l:List Addr}(h:mC P v g=some l):g.offers=none:=by
 unfold mC at h
 cases ho:cN P g with
 |none=>rw[ho]at h;cases h
 |some s=>exact(vj ho true default).2.1
theorem ab2 (wg:Nat)(tm:Nat→Value):(mP Tryz.prog wg tm c cs 4294967296).offers=none:=(oA (xI wg tm c cs))
theorem ab3 (wg:Nat)(tm:Nat→Value):(mP Tryz.prog wg tm c cs 8589934592).offers=none:=(oA (xJ wg tm c cs))
theorem ab4 (wg:Nat)(tm:Nat→Value):(mP Tryz.prog wg tm c cs 12884901888).offers=none:=(oA (xK wg tm c cs))
theorem ab5 (wg:Nat)(tm:Nat→Value):(mP Tryz.prog wg tm c cs 17179869184).offers=none:=(oA (xL wg tm c cs))
theorem ab6 (wg:Nat)(tm:Nat→Value):(mP Tryz.prog wg tm c cs 21474836480).offers=none:=(oA (xM wg tm c cs))
theorem Ln (tm:Nat→Value)(he:p.eW=181)(hA:oz γ p n0)(K:∀γ1 w1 ai w',Mv γ w γ1 w1→CE p n0 w1→RM γ1.idle w1 ai w'→MP (sys Tryz.prog) Q false 0 ai w' (kM c cs)):MP (sys Tryz.prog) Q false 1 γ w (CC Tryz.prog p.wg tm c cs 4294967296):=
 tT (K8 p.wg tm c cs) (TX p.wg tm c cs) (Kj p.wg tm c cs) rfl (xI p.wg tm c cs) (Pr p.wg tm c cs) (ab2 c cs p.wg tm) (Kk p.wg tm c cs) rfl (K9 p.wg tm c cs) (Kl p.wg tm c cs) rfl (TY p.wg tm c cs) (Km p.wg tm c cs) rfl (K_ p.wg tm c cs) (OX p.wg tm c cs) (Kn p.wg tm c cs) (OY p.wg tm c cs) he hA K
theorem Lo (tm:Nat→Value)(he:p.eW=181)(hA:oz γ p n0)(K:∀γ1 w1 ai w',Mv γ w γ1 w1→CE p n0 w1→RM γ1.idle w1 ai w'→MP (sys Tryz.prog) Q false 0 ai w' (kM c cs)):MP (sys Tryz.prog) Q false 1 γ w (CC Tryz.prog p.wg tm c cs 8589934592):=
 tT (La p.wg tm c cs) (TZ p.wg tm c cs) (Ks p.wg tm c cs) rfl (xJ p.wg tm c cs) (Pt p.wg tm c cs) (ab3 c cs p.wg tm) (Kt p.wg tm c cs) rfl (Lb p.wg tm c cs) (Ku p.wg tm c cs) rfl (T0 p.wg tm c cs) (Kv p.wg tm c cs) rfl (Lc p.wg tm c cs) (O0 p.wg tm c cs) (Kw p.wg tm c cs) (O7 p.wg tm c cs) he hA K
theorem Lp (tm:Nat→Value)(he:p.eW=181)(hA:oz γ p n0)(K:∀γ1 w1 ai w',Mv γ w γ1 w1→CE p n0 w1→RM γ1.idle w1 ai w'→MP (sys Tryz.prog) Q false 0 ai w' (kM c cs)):MP (sys Tryz.prog) Q false 1 γ w (CC Tryz.prog p.wg tm c cs 12884901888):=
 tT (Ld p.wg tm c cs) (T3 p.wg tm c cs) (KA p.wg tm c cs) rfl (xK p.wg tm c cs) (Pv p.wg tm c cs) (ab4 c cs p.wg tm) (KB p.wg tm c cs) rfl (Le p.wg tm c cs) (KD p.wg tm c cs) rfl (T4 p.wg tm c cs) (KE p.wg tm c cs) rfl (Lf p.wg tm c cs) (Pa p.wg tm c cs) (KF p.wg tm c cs) (Pb p.wg tm c cs) he hA K
theorem Lq (tm:Nat→Value)(he:p.eW=181)(hA:oz γ p n0)(K:∀γ1 w1 ai w',Mv γ w γ1 w1→CE p n0 w1→RM γ1.idle w1 ai w'→MP (sys Tryz.prog) Q false 0 ai w' (kM c cs)):MP (sys Tryz.prog) Q false 1 γ w (CC Tryz.prog p.wg tm c cs 17179869184):=
 tT (Lg p.wg tm c cs) (T5 p.wg tm c cs) (KL p.wg tm c cs) rfl (xL p.wg tm c cs) (Px p.wg tm c cs) (ab5 c cs p.wg tm) (KN p.wg tm c cs) rfl (Lh p.wg tm c cs) (KO p.wg tm c cs) rfl (T6 p.wg tm c cs) (KP p.wg tm c cs) rfl (Li p.wg tm c cs) (Pd p.wg tm c cs) (KQ p.wg tm c cs) (Pe p.wg tm c cs) he hA K
theorem Lr (tm:Nat→Value)(he:p.eW=181)(hA:oz γ p n0)(K:∀γ1 w1 ai w',Mv γ w γ1 w1→CE p n0 w1→RM γ1.idle w1 ai w'→MP (sys Tryz.prog) Q false 0 ai w' (kM c cs)):MP (sys Tryz.prog) Q false 1 γ w (CC Tryz.prog p.wg tm c cs 21474836480):=
 tT (Lj p.wg tm c cs) (T7 p.wg tm c cs) (KV p.wg tm c cs) rfl (xM p.wg tm c cs) (Pz p.wg tm c cs) (ab6 c cs p.wg tm) (KW p.wg tm c cs) rfl (Lk p.wg tm c cs) (KX p.wg tm c cs) rfl (T8 p.wg tm c cs) (KY p.wg tm c cs) rfl (Ll p.wg tm c cs) (Pg p.wg tm c cs) (KZ p.wg tm c cs) (Pj p.wg tm c cs) he hA K
theorem PI (he:p.eW=181)(hA:jK γ p 0 n0)(K:∀γ1 w1 ai w',Mv γ w γ1 w1→CE p n0 w1→RM γ1.idle w1 ai w'→MP (sys Tryz.prog) Q false 0 ai w' (kM c cs)):MP (sys Tryz.prog) Q false 0 γ w (Hn Tryz.prog p.wg c cs):=by
 refine Ub (T:=Nat→Value) (wlG:=fun tm=>wl Tryz.prog p.wg tm c cs) (l1:=fun tm=>Ho Tryz.prog p.wg tm c cs) (l2:=EG Tryz.prog p.wg c cs) (c1:=wL Tryz.prog p.wg c cs) (c2:=tn Tryz.prog p.wg c cs) (tm0:=CB (wt3 Tryz.prog p.wg c cs)) (TP p.wg c cs) rfl (Xe p.wg c cs) (TQ p.wg c cs) (TR p.wg c cs)
  (fun tm=>Xf p.wg tm c cs) (fun tm=>rfl) (Xk c cs) (PG c cs) (Xl c cs) (PH c cs) (Hu c cs) (Ud c cs) (fun tm v h1 h5=>?_) he hA K
 unfold tn;obtain rfl|rfl|rfl|rfl|rfl:v=1∨v=2∨v=3∨v=4∨v=5:=by omega
 ·rw[tW];exact⟨OW p.wg tm c cs,fun γ w hA K=>Ln c cs tm he hA K⟩
 ·rw[vI];exact⟨OZ p.wg tm c cs,fun γ w hA K=>Lo c cs tm he hA K⟩
 ·rw[xO];exact⟨O_ p.wg tm c cs,fun γ w hA K=>Lp c cs tm he hA K⟩
 ·rw[Af];exact⟨ae0 p.wg tm c cs,fun γ w hA K=>Lq c cs tm he hA K⟩
 ·rw[FF];exact⟨Pf p.wg tm c cs,fun γ w hA K=>Lr c cs tm he hA K⟩
end
end Go.Proofs.YtabjbdnokpjipaaGreat.Sr
