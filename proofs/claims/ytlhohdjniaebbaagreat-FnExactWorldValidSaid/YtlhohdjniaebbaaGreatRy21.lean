/-
What is proved: the starter's ways through Add and Wait at the program ('add_prog', 'wait_prog'). Conditions: those that each theorem states.
-/
import Derived.Test.YtlhohdjniaebbaaGreatRy20
import Derived.Test.YtlhohdjniaebbaaGreatRy13
set_option linter.unusedVariables false
set_option linter.unusedSimpArgs false
namespace Go.Proofs.YtlhohdjniaebbaaGreat.Sr
open Go Go.Conc Go.ConcN
theorem wJ:a_ .op 0=0:=by simp[a_,bK]
theorem Yf:((1:Nat):Int)*bK=4294967296:=by simp[bK]
theorem qd:a_ .op 1=4294967296:=by simp[a_,bK]
theorem aa8:a_ .reg 1=4294967297:=by simp[a_,bK]
theorem Yg:((2:Nat):Int)*bK=8589934592:=by simp[bK]
theorem rN:a_ .op 2=8589934592:=by simp[a_,bK]
theorem aa9:a_ .reg 2=8589934593:=by simp[a_,bK]
theorem Yh:((3:Nat):Int)*bK=12884901888:=by simp[bK]
theorem ub:a_ .op 3=12884901888:=by simp[a_,bK]
theorem aa_:a_ .reg 3=12884901889:=by simp[a_,bK]
theorem Yi:((4:Nat):Int)*bK=17179869184:=by simp[bK]
theorem wK:a_ .op 4=17179869184:=by simp[a_,bK]
theorem aa':a_ .reg 4=17179869185:=by simp[a_,bK]
theorem Yj:((5:Nat):Int)*bK=21474836480:=by simp[bK]
theorem B7:a_ .op 5=21474836480:=by simp[a_,bK]
theorem aba:a_ .reg 5=21474836481:=by simp[a_,bK]
section
variable {Q:Gh→World→Trace→Nat→Outcome→World→Prop}{γ:Gh}{w:World}{p:Ph}{n0:Nat}(c:Frame)(cs:List Frame)
def uf (P:Program)(wg:Nat)(c:Frame)(cs:List Frame)(v:Nat):Goroutine:=pE P wg c cs ((v:Int)*bK)
theorem Lz (wg:Nat):uf Tryz.prog wg c cs 1=pE Tryz.prog wg c cs 4294967296:=by unfold uf;rw[Yf]
theorem LA (wg:Nat):uf Tryz.prog wg c cs 2=pE Tryz.prog wg c cs 8589934592:=by unfold uf;rw[Yg]
theorem LB (wg:Nat):uf Tryz.prog wg c cs 3=pE Tryz.prog wg c cs 12884901888:=by unfold uf;rw[Yh]
theorem LC (wg:Nat):uf Tryz.prog wg c cs 4=pE Tryz.prog wg c cs 17179869184:=by unfold uf;rw[Yi]
theorem LD (wg:Nat):uf Tryz.prog wg c cs 5=pE Tryz.prog wg c cs 21474836480:=by unfold uf;rw[Yj]
theorem WK (v:Nat)(h:v≤4):bn Tryz.prog (.int .u64 (a_ .op v)) none (K4 Tryz.prog p.wg c cs)=some ⟨uf Tryz.prog p.wg c cs (v+1),#[bV ⟨p.wg,0,none⟩,dS ⟨p.wg,0,none⟩],[⟨p.wg,0,none⟩,⟨p.wg,0,none⟩],[],some (⟨p.wg,0,none⟩,.int .u64 (((v+1:Nat):Int)*bK))⟩:=by
 obtain rfl|rfl|rfl|rfl|rfl:v=0∨v=1∨v=2∨v=3∨v=4:=by omega
 ·rw[wJ,Lz,Yf];exact Lj p.wg c cs
 ·rw[qd,LA,Yg];exact Lk p.wg c cs
 ·rw[rN,LB,Yh];exact Ll p.wg c cs
 ·rw[ub,LC,Yi];exact Lm p.wg c cs
 ·rw[wK,LD,Yj];exact Ln p.wg c cs
theorem WL (v:Nat)(h1:2≤v)(h:v≤5):mute Tryz.prog 87 (uf Tryz.prog p.wg c cs v)=true:=by
 obtain rfl|rfl|rfl|rfl:v=2∨v=3∨v=4∨v=5:=by omega
 ·rw[LA];exact Gg p.wg c cs
 ·rw[LB];exact Gi p.wg c cs
 ·rw[LC];exact Gj p.wg c cs
 ·rw[LD];exact Gk p.wg c cs
theorem WN (v:Nat)(h1:2≤v)(h:v≤5):∃g9,bU Tryz.prog (aL Tryz.prog 87 (uf Tryz.prog p.wg c cs v))=some (g9,#[dL .enable])∧mute Tryz.prog 1 g9=true∧aL Tryz.prog 1 g9=iY c cs:=by
 obtain rfl|rfl|rfl|rfl:v=2∨v=3∨v=4∨v=5:=by omega
 ·rw[LA];exact PS p.wg c cs
 ·rw[LB];exact PT p.wg c cs
 ·rw[LC];exact PU p.wg c cs
 ·rw[LD];exact PV p.wg c cs
theorem Qg (he:p.eW=231)(hA:gZ γ p 0 n0)(hn:n0-p.j0<p.n)(K:∀ah w',Mv γ w ah w'→gZ ah p 1 n0→MP (sys Tryz.prog) Q false 0 ah w' (iY c cs)):MP (sys Tryz.prog) Q false 0 γ w (Wz Tryz.prog p.wg c cs):=
 Tj (g4:=uf Tryz.prog p.wg c cs) (PN p.wg c cs) rfl (Tk p.wg c cs) (PO p.wg c cs) rfl (WK c cs)
  (by rw[Lz];exact PQ p.wg c cs) (by rw[Lz];rfl) (Qc p.wg c cs) (WA p.wg c cs) (PR p.wg c cs) rfl (WB p.wg c cs) (WL c cs) (WN c cs) he hA hn K
def Bf (P:Program)(wg:Nat)(c:Frame)(cs:List Frame)(tm:Nat→Value)(v:Nat):Goroutine:=rn P wg tm c cs (a_ .op v)
def sO (P:Program)(wg:Nat)(c:Frame)(cs:List Frame)(tm:Nat→Value)(v:Nat):Goroutine:=mC P wg tm c cs (a_ .op v)
def pF (P:Program)(wg:Nat)(c:Frame)(cs:List Frame)(tm:Nat→Value)(v:Nat)(b:Bool):Goroutine:=eM P wg tm c cs (a_ .op v) b
theorem Tv (tm:Nat→Value)(v:Nat)(h:v≤5):bn Tryz.prog (.int .u64 (a_ .op v)) none (Du Tryz.prog p.wg tm c cs)=some ⟨Bf Tryz.prog p.wg c cs tm v,#[bV ⟨p.wg,0,none⟩],[⟨p.wg,0,none⟩],[],none⟩:=by
 unfold Bf;obtain rfl|rfl|rfl|rfl|rfl|rfl:v=0∨v=1∨v=2∨v=3∨v=4∨v=5:=by omega
 ·rw[wJ];exact G5 p.wg tm c cs
 ·rw[qd];exact G6 p.wg tm c cs
 ·rw[rN];exact G7 p.wg tm c cs
 ·rw[ub];exact G8 p.wg tm c cs
 ·rw[wK];exact G9 p.wg tm c cs
 ·rw[B7];exact G_ p.wg tm c cs
theorem LF (tm:Nat→Value):mute Tryz.prog 31 (Bf Tryz.prog p.wg c cs tm 0)=true∧∃Hq z2 z3 z4,bU Tryz.prog (aL Tryz.prog 31 (Bf Tryz.prog p.wg c cs tm 0))=some (Hq,#[dL .enable])∧mute Tryz.prog 3 Hq=true∧aL Tryz.prog 3 Hq=z2∧bn Tryz.prog undef (some (231,2)) z2=some ⟨z3,#[],[],[p.wg,p.wg],none⟩∧
   bU Tryz.prog z3=some (z4,#[dL (.acquire ⟨p.wg,0,none⟩)])∧mute Tryz.prog 20 z4=true∧aL Tryz.prog 20 z4=iY c cs:=by
 have e:Bf Tryz.prog p.wg c cs tm 0=rn Tryz.prog p.wg tm c cs 0:=by unfold Bf;rw[wJ]
 rw[e];exact⟨P0 p.wg tm c cs,_,_,_,_,WG p.wg tm c cs,P1 p.wg tm c cs,rfl,Qd p.wg tm c cs,To p.wg tm c cs,P2 p.wg tm c cs,Tp p.wg tm c cs⟩
theorem Tx (tm:Nat→Value)(v:Nat)(h1:1≤v)(h:v≤5):mute Tryz.prog 48 (Bf Tryz.prog p.wg c cs tm v)=true∧aL Tryz.prog 48 (Bf Tryz.prog p.wg c cs tm v)=sO Tryz.prog p.wg c cs tm v:=by
 refine⟨?_,rfl⟩;unfold Bf;obtain rfl|rfl|rfl|rfl|rfl:v=1∨v=2∨v=3∨v=4∨v=5:=by omega
 ·rw[qd];exact Gl p.wg tm c cs
 ·rw[rN];exact Gu p.wg tm c cs
 ·rw[ub];exact GC p.wg tm c cs
 ·rw[wK];exact GL p.wg tm c cs
 ·rw[B7];exact GW p.wg tm c cs
theorem Dw (tm:Nat→Value)(u:Nat)(h:u<1):bn Tryz.prog (.int .u64 (a_ .op u)) (some (231,2)) (sO Tryz.prog p.wg c cs tm 1)=some ⟨pF Tryz.prog p.wg c cs tm 1 false,#[bV ⟨p.wg,0,none⟩],[⟨p.wg,0,none⟩,⟨p.wg,0,none⟩],[p.wg],none⟩:=by
 unfold sO pF;rw[qd];obtain rfl:u=0:=by omega
 rw[wJ];exact AS p.wg tm c cs
theorem Dx (tm:Nat→Value)(u:Nat)(h:u<2):bn Tryz.prog (.int .u64 (a_ .op u)) (some (231,2)) (sO Tryz.prog p.wg c cs tm 2)=some ⟨pF Tryz.prog p.wg c cs tm 2 false,#[bV ⟨p.wg,0,none⟩],[⟨p.wg,0,none⟩,⟨p.wg,0,none⟩],[p.wg],none⟩:=by
 unfold sO pF;rw[rN];obtain rfl|rfl:u=0∨u=1:=by omega
 ·rw[wJ];exact AT p.wg tm c cs
 ·rw[qd];exact AU p.wg tm c cs
theorem Dy (tm:Nat→Value)(u:Nat)(h:u<3):bn Tryz.prog (.int .u64 (a_ .op u)) (some (231,2)) (sO Tryz.prog p.wg c cs tm 3)=some ⟨pF Tryz.prog p.wg c cs tm 3 false,#[bV ⟨p.wg,0,none⟩],[⟨p.wg,0,none⟩,⟨p.wg,0,none⟩],[p.wg],none⟩:=by
 unfold sO pF;rw[ub];obtain rfl|rfl|rfl:u=0∨u=1∨u=2:=by omega
 ·rw[wJ];exact AV p.wg tm c cs
 ·rw[qd];exact AW p.wg tm c cs
 ·rw[rN];exact AX p.wg tm c cs
theorem Dz (tm:Nat→Value)(u:Nat)(h:u<4):bn Tryz.prog (.int .u64 (a_ .op u)) (some (231,2)) (sO Tryz.prog p.wg c cs tm 4)=some ⟨pF Tryz.prog p.wg c cs tm 4 false,#[bV ⟨p.wg,0,none⟩],[⟨p.wg,0,none⟩,⟨p.wg,0,none⟩],[p.wg],none⟩:=by
 unfold sO pF;rw[wK];obtain rfl|rfl|rfl|rfl:u=0∨u=1∨u=2∨u=3:=by omega
 ·rw[wJ];exact AY p.wg tm c cs
 ·rw[qd];exact AZ p.wg tm c cs
 ·rw[rN];exact A0 p.wg tm c cs
 ·rw[ub];exact A_ p.wg tm c cs
theorem DC (tm:Nat→Value)(u:Nat)(h:u<5):bn Tryz.prog (.int .u64 (a_ .op u)) (some (231,2)) (sO Tryz.prog p.wg c cs tm 5)=some ⟨pF Tryz.prog p.wg c cs tm 5 false,#[bV ⟨p.wg,0,none⟩],[⟨p.wg,0,none⟩,⟨p.wg,0,none⟩],[p.wg],none⟩:=by
 unfold sO pF;rw[B7];obtain rfl|rfl|rfl|rfl|rfl:u=0∨u=1∨u=2∨u=3∨u=4:=by omega
 ·rw[wJ];exact Ba p.wg tm c cs
 ·rw[qd];exact Bb p.wg tm c cs
 ·rw[rN];exact Bc p.wg tm c cs
 ·rw[ub];exact Bd p.wg tm c cs
 ·rw[wK];exact Be p.wg tm c cs
theorem LG (tm:Nat→Value)(v u:Nat)(h1:1≤v)(h5:v≤5)(h:u<v):bn Tryz.prog (.int .u64 (a_ .op u)) (some (231,2)) (sO Tryz.prog p.wg c cs tm v)=some ⟨pF Tryz.prog p.wg c cs tm v false,#[bV ⟨p.wg,0,none⟩],[⟨p.wg,0,none⟩,⟨p.wg,0,none⟩],[p.wg],none⟩:=by
 obtain rfl|rfl|rfl|rfl|rfl:v=1∨v=2∨v=3∨v=4∨v=5:=by omega
 ·exact Dw c cs tm u h
 ·exact Dx c cs tm u h
 ·exact Dy c cs tm u h
 ·exact Dz c cs tm u h
 ·exact DC c cs tm u h
theorem DD (tm:Nat→Value)(v:Nat)(h1:1≤v)(h5:v≤5):mute Tryz.prog 9 (pF Tryz.prog p.wg c cs tm v false)=true∧∃tm',aL Tryz.prog 9 (pF Tryz.prog p.wg c cs tm v false)=wl Tryz.prog p.wg tm' c cs:=by
 unfold pF;obtain rfl|rfl|rfl|rfl|rfl:v=1∨v=2∨v=3∨v=4∨v=5:=by omega
 ·rw[qd];exact⟨Gm p.wg tm c cs,_,Gn p.wg tm c cs⟩
 ·rw[rN];exact⟨Gv p.wg tm c cs,_,Gw p.wg tm c cs⟩
 ·rw[ub];exact⟨GD p.wg tm c cs,_,GF p.wg tm c cs⟩
 ·rw[wK];exact⟨GM p.wg tm c cs,_,GN p.wg tm c cs⟩
 ·rw[B7];exact⟨GX p.wg tm c cs,_,GY p.wg tm c cs⟩
theorem Qh (tm:Nat→Value)(v:Nat)(h1:1≤v)(h5:v≤5):bn Tryz.prog (.int .u64 (a_ .op v)) (some (231,2)) (sO Tryz.prog p.wg c cs tm v)=some ⟨pF Tryz.prog p.wg c cs tm v true,#[bV ⟨p.wg,0,none⟩,dS ⟨p.wg,0,none⟩],[⟨p.wg,0,none⟩,⟨p.wg,0,none⟩,⟨p.wg,0,none⟩],[p.wg],some (⟨p.wg,0,none⟩,.int .u64 (a_ .reg v))⟩:=by
 unfold sO pF;obtain rfl|rfl|rfl|rfl|rfl:v=1∨v=2∨v=3∨v=4∨v=5:=by omega
 ·rw[qd,aa8];exact Lo p.wg tm c cs
 ·rw[rN,aa9];exact Lq p.wg tm c cs
 ·rw[ub,aa_];exact Ls p.wg tm c cs
 ·rw[wK,aa'];exact Lv p.wg tm c cs
 ·rw[B7,aba];exact Lx p.wg tm c cs
theorem lQ {P:Program}{v:Value}{g:Goroutine}{l:List Addr}(h:ki P v g=some l):g.offers=none:=by
 unfold ki at h
 cases ho:cm P g with
 |none=>rw[ho]at h;cases h
 |some s=>exact(ri ho true default).2.1
theorem Zo (wg:Nat)(tm:Nat→Value):(kx Tryz.prog wg tm c cs 4294967296).offers=none:=(lQ (tW wg tm c cs))
theorem Zp (wg:Nat)(tm:Nat→Value):(kx Tryz.prog wg tm c cs 8589934592).offers=none:=(lQ (tX wg tm c cs))
theorem Zq (wg:Nat)(tm:Nat→Value):(kx Tryz.prog wg tm c cs 12884901888).offers=none:=(lQ (tY wg tm c cs))
theorem Zr (wg:Nat)(tm:Nat→Value):(kx Tryz.prog wg tm c cs 17179869184).offers=none:=(lQ (tZ wg tm c cs))
theorem Zs (wg:Nat)(tm:Nat→Value):(kx Tryz.prog wg tm c cs 21474836480).offers=none:=(lQ (t_ wg tm c cs))
theorem Hr (tm:Nat→Value)(he:p.eW=231)(hA:lP γ p n0)(K:∀γ1 w1 ah w',Mv γ w γ1 w1→za p n0 w1→RM γ1.idle w1 ah w'→MP (sys Tryz.prog) Q false 0 ah w' (iY c cs)):MP (sys Tryz.prog) Q false 1 γ w (y9 Tryz.prog p.wg tm c cs 4294967296):=
 qa (G' p.wg tm c cs) (P3 p.wg tm c cs) (Gp p.wg tm c cs) rfl (tW p.wg tm c cs) (Lp p.wg tm c cs) (Zo c cs p.wg tm) (Gq p.wg tm c cs) rfl (Ha p.wg tm c cs) (Gr p.wg tm c cs) rfl (P4 p.wg tm c cs) (Gs p.wg tm c cs) rfl (Hd p.wg tm c cs) (K6 p.wg tm c cs) (Gt p.wg tm c cs) (K7 p.wg tm c cs) he hA K
theorem Hs (tm:Nat→Value)(he:p.eW=231)(hA:lP γ p n0)(K:∀γ1 w1 ah w',Mv γ w γ1 w1→za p n0 w1→RM γ1.idle w1 ah w'→MP (sys Tryz.prog) Q false 0 ah w' (iY c cs)):MP (sys Tryz.prog) Q false 1 γ w (y9 Tryz.prog p.wg tm c cs 8589934592):=
 qa (He p.wg tm c cs) (P5 p.wg tm c cs) (Gx p.wg tm c cs) rfl (tX p.wg tm c cs) (Lr p.wg tm c cs) (Zp c cs p.wg tm) (Gy p.wg tm c cs) rfl (Hf p.wg tm c cs) (Gz p.wg tm c cs) rfl (P6 p.wg tm c cs) (GA p.wg tm c cs) rfl (Hg p.wg tm c cs) (K9 p.wg tm c cs) (GB p.wg tm c cs) (K_ p.wg tm c cs) he hA K
theorem Ht (tm:Nat→Value)(he:p.eW=231)(hA:lP γ p n0)(K:∀γ1 w1 ah w',Mv γ w γ1 w1→za p n0 w1→RM γ1.idle w1 ah w'→MP (sys Tryz.prog) Q false 0 ah w' (iY c cs)):MP (sys Tryz.prog) Q false 1 γ w (y9 Tryz.prog p.wg tm c cs 12884901888):=
 qa (Hh p.wg tm c cs) (P7 p.wg tm c cs) (GG p.wg tm c cs) rfl (tY p.wg tm c cs) (Lu p.wg tm c cs) (Zq c cs p.wg tm) (GH p.wg tm c cs) rfl (Hi p.wg tm c cs) (GI p.wg tm c cs) rfl (P8 p.wg tm c cs) (GJ p.wg tm c cs) rfl (Hj p.wg tm c cs) (Lb p.wg tm c cs) (GK p.wg tm c cs) (Lc p.wg tm c cs) he hA K
theorem Hu (tm:Nat→Value)(he:p.eW=231)(hA:lP γ p n0)(K:∀γ1 w1 ah w',Mv γ w γ1 w1→za p n0 w1→RM γ1.idle w1 ah w'→MP (sys Tryz.prog) Q false 0 ah w' (iY c cs)):MP (sys Tryz.prog) Q false 1 γ w (y9 Tryz.prog p.wg tm c cs 17179869184):=
 qa (Hk p.wg tm c cs) (P9 p.wg tm c cs) (GO p.wg tm c cs) rfl (tZ p.wg tm c cs) (Lw p.wg tm c cs) (Zr c cs p.wg tm) (GP p.wg tm c cs) rfl (Hl p.wg tm c cs) (GQ p.wg tm c cs) rfl (P_ p.wg tm c cs) (GR p.wg tm c cs) rfl (Hm p.wg tm c cs) (Le p.wg tm c cs) (GU p.wg tm c cs) (Lf p.wg tm c cs) he hA K
theorem Hv (tm:Nat→Value)(he:p.eW=231)(hA:lP γ p n0)(K:∀γ1 w1 ah w',Mv γ w γ1 w1→za p n0 w1→RM γ1.idle w1 ah w'→MP (sys Tryz.prog) Q false 0 ah w' (iY c cs)):MP (sys Tryz.prog) Q false 1 γ w (y9 Tryz.prog p.wg tm c cs 21474836480):=
 qa (Hn p.wg tm c cs) (Qa p.wg tm c cs) (GZ p.wg tm c cs) rfl (t_ p.wg tm c cs) (Ly p.wg tm c cs) (Zs c cs p.wg tm) (G0 p.wg tm c cs) rfl (Ho p.wg tm c cs) (G1 p.wg tm c cs) rfl (Qb p.wg tm c cs) (G2 p.wg tm c cs) rfl (Hp p.wg tm c cs) (Lh p.wg tm c cs) (G3 p.wg tm c cs) (Li p.wg tm c cs) he hA K
theorem LH (he:p.eW=231)(hA:gZ γ p 0 n0)(K:∀γ1 w1 ah w',Mv γ w γ1 w1→za p n0 w1→RM γ1.idle w1 ah w'→MP (sys Tryz.prog) Q false 0 ah w' (iY c cs)):MP (sys Tryz.prog) Q false 0 γ w (Dt Tryz.prog p.wg c cs):=by
 refine Qf (T:=Nat→Value) (wlG:=fun tm=>wl Tryz.prog p.wg tm c cs) (l1:=fun tm=>Du Tryz.prog p.wg tm c cs) (l2:=Bf Tryz.prog p.wg c cs) (c1:=sO Tryz.prog p.wg c cs) (c2:=pF Tryz.prog p.wg c cs) (tm0:=y8 (WC Tryz.prog p.wg c cs)) (PX p.wg c cs) rfl (Tm p.wg c cs) (PY p.wg c cs) (PZ p.wg c cs)
  (fun tm=>Tn p.wg tm c cs) (fun tm=>rfl) (Tv c cs) (LF c cs) (Tx c cs) (LG c cs) (DD c cs) (Qh c cs) (fun tm v h1 h5=>?_) he hA K
 unfold pF;obtain rfl|rfl|rfl|rfl|rfl:v=1∨v=2∨v=3∨v=4∨v=5:=by omega
 ·rw[qd];exact⟨K5 p.wg tm c cs,fun γ w hA K=>Hr c cs tm he hA K⟩
 ·rw[rN];exact⟨K8 p.wg tm c cs,fun γ w hA K=>Hs c cs tm he hA K⟩
 ·rw[ub];exact⟨La p.wg tm c cs,fun γ w hA K=>Ht c cs tm he hA K⟩
 ·rw[wK];exact⟨Ld p.wg tm c cs,fun γ w hA K=>Hu c cs tm he hA K⟩
 ·rw[B7];exact⟨Lg p.wg tm c cs,fun γ w hA K=>Hv c cs tm he hA K⟩
end
end Go.Proofs.YtlhohdjniaebbaaGreat.Sr
