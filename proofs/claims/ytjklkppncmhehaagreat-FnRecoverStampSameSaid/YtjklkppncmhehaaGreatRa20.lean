/-
What is proved: the starter's ways through Add and Wait at the program ('add_prog', 'wait_prog'). Conditions: those that each theorem states.
-/
import Derived.Test.YtjklkppncmhehaaGreatRa19
import Derived.Test.YtjklkppncmhehaaGreatRa13
set_option linter.unusedVariables false
set_option linter.unusedSimpArgs false
namespace Go.Proofs.YtjklkppncmhehaaGreat.Sr
open Go Go.Conc Go.ConcN
theorem tZ:aP .op 0=0:=by simp[aP,bp]
theorem R9:((1:Nat):Int)*bp=4294967296:=by simp[bp]
theorem oD:aP .op 1=4294967296:=by simp[aP,bp]
theorem V':aP .bT 1=4294967297:=by simp[aP,bp]
theorem R_:((2:Nat):Int)*bp=8589934592:=by simp[bp]
theorem pW:aP .op 2=8589934592:=by simp[aP,bp]
theorem Wa:aP .bT 2=8589934593:=by simp[aP,bp]
theorem R':((3:Nat):Int)*bp=12884901888:=by simp[bp]
theorem rO:aP .op 3=12884901888:=by simp[aP,bp]
theorem Wb:aP .bT 3=12884901889:=by simp[aP,bp]
theorem Sa:((4:Nat):Int)*bp=17179869184:=by simp[bp]
theorem t_:aP .op 4=17179869184:=by simp[aP,bp]
theorem Wc:aP .bT 4=17179869185:=by simp[aP,bp]
theorem Sb:((5:Nat):Int)*bp=21474836480:=by simp[bp]
theorem ze:aP .op 5=21474836480:=by simp[aP,bp]
theorem Wd:aP .bT 5=21474836481:=by simp[aP,bp]
section
variable {Q:Gh→World→Trace→Nat→Outcome→World→Prop}{γ:Gh}{w:World}{p:Ph}{n0:Nat}(c:Frame)(cs:List Frame)
def rP (P:Program)(wg:Nat)(c:Frame)(cs:List Frame)(v:Nat):Goroutine:=nX P wg c cs ((v:Int)*bp)
theorem HY (wg:Nat):rP Tryz.prog wg c cs 1=nX Tryz.prog wg c cs 4294967296:=by unfold rP;rw[R9]
theorem H0 (wg:Nat):rP Tryz.prog wg c cs 2=nX Tryz.prog wg c cs 8589934592:=by unfold rP;rw[R_]
theorem H2 (wg:Nat):rP Tryz.prog wg c cs 3=nX Tryz.prog wg c cs 12884901888:=by unfold rP;rw[R']
theorem H3 (wg:Nat):rP Tryz.prog wg c cs 4=nX Tryz.prog wg c cs 17179869184:=by unfold rP;rw[Sa]
theorem H4 (wg:Nat):rP Tryz.prog wg c cs 5=nX Tryz.prog wg c cs 21474836480:=by unfold rP;rw[Sb]
theorem Q2 (v:Nat)(h:v≤4):aZ Tryz.prog (.int .u64 (aP .op v)) none (Hm Tryz.prog p.wg c cs)=some ⟨rP Tryz.prog p.wg c cs (v+1),#[bE ⟨p.wg,0,none⟩,dr ⟨p.wg,0,none⟩],[⟨p.wg,0,none⟩,⟨p.wg,0,none⟩],[],some (⟨p.wg,0,none⟩,.int .u64 (((v+1:Nat):Int)*bp))⟩:=by
 obtain rfl|rfl|rfl|rfl|rfl:v=0∨v=1∨v=2∨v=3∨v=4:=by omega
 ·rw[tZ,HY,R9];exact HG p.wg c cs
 ·rw[oD,H0,R_];exact HH p.wg c cs
 ·rw[pW,H2,R'];exact HI p.wg c cs
 ·rw[rO,H3,Sa];exact HJ p.wg c cs
 ·rw[t_,H4,Sb];exact HK p.wg c cs
theorem Q3 (v:Nat)(U:2≤v)(h:v≤5):mute Tryz.prog 87 (rP Tryz.prog p.wg c cs v)=true:=by
 obtain rfl|rfl|rfl|rfl:v=2∨v=3∨v=4∨v=5:=by omega
 ·rw[H0];exact Da p.wg c cs
 ·rw[H2];exact Db p.wg c cs
 ·rw[H3];exact Dc p.wg c cs
 ·rw[H4];exact Dd p.wg c cs
theorem Q4 (v:Nat)(U:2≤v)(h:v≤5):∃g9,bM Tryz.prog (aE Tryz.prog 87 (rP Tryz.prog p.wg c cs v))=some (g9,#[dj .enable])∧mute Tryz.prog 1 g9=true∧aE Tryz.prog 1 g9=kh c cs:=by
 obtain rfl|rfl|rfl|rfl:v=2∨v=3∨v=4∨v=5:=by omega
 ·rw[H0];exact Li p.wg c cs
 ·rw[H2];exact Lj p.wg c cs
 ·rw[H3];exact Lk p.wg c cs
 ·rw[H4];exact Ll p.wg c cs
theorem LJ (he:p.eW=191)(hA:fW γ p 0 n0)(hn:n0-p.j0<p.n)(K:∀af w',Mv γ w af w'→fW af p 1 n0→MP (sys Tryz.prog) Q false 0 af w' (kh c cs)):MP (sys Tryz.prog) Q false 0 γ w (QT Tryz.prog p.wg c cs):=
 N8 (g4:=rP Tryz.prog p.wg c cs) (Le p.wg c cs) rfl (N9 p.wg c cs) (Lf p.wg c cs) rfl (Q2 c cs)
  (by rw[HY];exact Lg p.wg c cs) (by rw[HY];rfl) (LF p.wg c cs) (QU p.wg c cs) (Lh p.wg c cs) rfl (QV p.wg c cs) (Q3 c cs) (Q4 c cs) he hA hn K
def yw (P:Program)(wg:Nat)(c:Frame)(cs:List Frame)(tm:Nat→Value)(v:Nat):Goroutine:=pE P wg tm c cs (aP .op v)
def qJ (P:Program)(wg:Nat)(c:Frame)(cs:List Frame)(tm:Nat→Value)(v:Nat):Goroutine:=lj P wg tm c cs (aP .op v)
def nY (P:Program)(wg:Nat)(c:Frame)(cs:List Frame)(tm:Nat→Value)(v:Nat)(b:Bool):Goroutine:=dH P wg tm c cs (aP .op v) b
theorem Oi (tm:Nat→Value)(v:Nat)(h:v≤5):aZ Tryz.prog (.int .u64 (aP .op v)) none (Av Tryz.prog p.wg tm c cs)=some ⟨yw Tryz.prog p.wg c cs tm v,#[bE ⟨p.wg,0,none⟩],[⟨p.wg,0,none⟩],[],none⟩:=by
 unfold yw;obtain rfl|rfl|rfl|rfl|rfl|rfl:v=0∨v=1∨v=2∨v=3∨v=4∨v=5:=by omega
 ·rw[tZ];exact DZ p.wg tm c cs
 ·rw[oD];exact D4 p.wg tm c cs
 ·rw[pW];exact D5 p.wg tm c cs
 ·rw[rO];exact D6 p.wg tm c cs
 ·rw[t_];exact D7 p.wg tm c cs
 ·rw[ze];exact D8 p.wg tm c cs
theorem H5 (tm:Nat→Value):mute Tryz.prog 31 (yw Tryz.prog p.wg c cs tm 0)=true∧∃En z2 z3 z4,bM Tryz.prog (aE Tryz.prog 31 (yw Tryz.prog p.wg c cs tm 0))=some (En,#[dj .enable])∧mute Tryz.prog 3 En=true∧aE Tryz.prog 3 En=z2∧aZ Tryz.prog undef (some (191,2)) z2=some ⟨z3,#[],[],[p.wg,p.wg],none⟩∧
   bM Tryz.prog z3=some (z4,#[dj (.acquire ⟨p.wg,0,none⟩)])∧mute Tryz.prog 20 z4=true∧aE Tryz.prog 20 z4=kh c cs:=by
 have e:yw Tryz.prog p.wg c cs tm 0=pE Tryz.prog p.wg tm c cs 0:=by unfold yw;rw[tZ]
 rw[e];exact⟨Lq p.wg tm c cs,_,_,_,_,QY p.wg tm c cs,Lr p.wg tm c cs,rfl,LG p.wg tm c cs,Od p.wg tm c cs,Ls p.wg tm c cs,Oe p.wg tm c cs⟩
theorem Oj (tm:Nat→Value)(v:Nat)(U:1≤v)(h:v≤5):mute Tryz.prog 48 (yw Tryz.prog p.wg c cs tm v)=true∧aE Tryz.prog 48 (yw Tryz.prog p.wg c cs tm v)=qJ Tryz.prog p.wg c cs tm v:=by
 refine⟨?_,rfl⟩;unfold yw;obtain rfl|rfl|rfl|rfl|rfl:v=1∨v=2∨v=3∨v=4∨v=5:=by omega
 ·rw[oD];exact Df p.wg tm c cs
 ·rw[pW];exact Dn p.wg tm c cs
 ·rw[rO];exact Dw p.wg tm c cs
 ·rw[t_];exact DG p.wg tm c cs
 ·rw[ze];exact DQ p.wg tm c cs
theorem Aw (tm:Nat→Value)(u:Nat)(h:u<1):aZ Tryz.prog (.int .u64 (aP .op u)) (some (191,2)) (qJ Tryz.prog p.wg c cs tm 1)=some ⟨nY Tryz.prog p.wg c cs tm 1 false,#[bE ⟨p.wg,0,none⟩],[⟨p.wg,0,none⟩,⟨p.wg,0,none⟩],[p.wg],none⟩:=by
 unfold qJ nY;rw[oD];obtain rfl:u=0:=by omega
 rw[tZ];exact yf p.wg tm c cs
theorem Ax (tm:Nat→Value)(u:Nat)(h:u<2):aZ Tryz.prog (.int .u64 (aP .op u)) (some (191,2)) (qJ Tryz.prog p.wg c cs tm 2)=some ⟨nY Tryz.prog p.wg c cs tm 2 false,#[bE ⟨p.wg,0,none⟩],[⟨p.wg,0,none⟩,⟨p.wg,0,none⟩],[p.wg],none⟩:=by
 unfold qJ nY;rw[pW];obtain rfl|rfl:u=0∨u=1:=by omega
 ·rw[tZ];exact yg p.wg tm c cs
 ·rw[oD];exact yh p.wg tm c cs
theorem Az (tm:Nat→Value)(u:Nat)(h:u<3):aZ Tryz.prog (.int .u64 (aP .op u)) (some (191,2)) (qJ Tryz.prog p.wg c cs tm 3)=some ⟨nY Tryz.prog p.wg c cs tm 3 false,#[bE ⟨p.wg,0,none⟩],[⟨p.wg,0,none⟩,⟨p.wg,0,none⟩],[p.wg],none⟩:=by
 unfold qJ nY;rw[rO];obtain rfl|rfl|rfl:u=0∨u=1∨u=2:=by omega
 ·rw[tZ];exact yi p.wg tm c cs
 ·rw[oD];exact yj p.wg tm c cs
 ·rw[pW];exact yk p.wg tm c cs
theorem AA (tm:Nat→Value)(u:Nat)(h:u<4):aZ Tryz.prog (.int .u64 (aP .op u)) (some (191,2)) (qJ Tryz.prog p.wg c cs tm 4)=some ⟨nY Tryz.prog p.wg c cs tm 4 false,#[bE ⟨p.wg,0,none⟩],[⟨p.wg,0,none⟩,⟨p.wg,0,none⟩],[p.wg],none⟩:=by
 unfold qJ nY;rw[t_];obtain rfl|rfl|rfl|rfl:u=0∨u=1∨u=2∨u=3:=by omega
 ·rw[tZ];exact yl p.wg tm c cs
 ·rw[oD];exact ym p.wg tm c cs
 ·rw[pW];exact yn p.wg tm c cs
 ·rw[rO];exact yo p.wg tm c cs
theorem AB (tm:Nat→Value)(u:Nat)(h:u<5):aZ Tryz.prog (.int .u64 (aP .op u)) (some (191,2)) (qJ Tryz.prog p.wg c cs tm 5)=some ⟨nY Tryz.prog p.wg c cs tm 5 false,#[bE ⟨p.wg,0,none⟩],[⟨p.wg,0,none⟩,⟨p.wg,0,none⟩],[p.wg],none⟩:=by
 unfold qJ nY;rw[ze];obtain rfl|rfl|rfl|rfl|rfl:u=0∨u=1∨u=2∨u=3∨u=4:=by omega
 ·rw[tZ];exact yp p.wg tm c cs
 ·rw[oD];exact yq p.wg tm c cs
 ·rw[pW];exact yr p.wg tm c cs
 ·rw[rO];exact yu p.wg tm c cs
 ·rw[t_];exact yv p.wg tm c cs
theorem H6 (tm:Nat→Value)(v u:Nat)(U:1≤v)(h5:v≤5)(h:u<v):aZ Tryz.prog (.int .u64 (aP .op u)) (some (191,2)) (qJ Tryz.prog p.wg c cs tm v)=some ⟨nY Tryz.prog p.wg c cs tm v false,#[bE ⟨p.wg,0,none⟩],[⟨p.wg,0,none⟩,⟨p.wg,0,none⟩],[p.wg],none⟩:=by
 obtain rfl|rfl|rfl|rfl|rfl:v=1∨v=2∨v=3∨v=4∨v=5:=by omega
 ·exact Aw c cs tm u h
 ·exact Ax c cs tm u h
 ·exact Az c cs tm u h
 ·exact AA c cs tm u h
 ·exact AB c cs tm u h
theorem AD (tm:Nat→Value)(v:Nat)(U:1≤v)(h5:v≤5):mute Tryz.prog 9 (nY Tryz.prog p.wg c cs tm v false)=true∧∃aT,aE Tryz.prog 9 (nY Tryz.prog p.wg c cs tm v false)=wl Tryz.prog p.wg aT c cs:=by
 unfold nY;obtain rfl|rfl|rfl|rfl|rfl:v=1∨v=2∨v=3∨v=4∨v=5:=by omega
 ·rw[oD];exact⟨Dg p.wg tm c cs,_,Dh p.wg tm c cs⟩
 ·rw[pW];exact⟨Dp p.wg tm c cs,_,Dq p.wg tm c cs⟩
 ·rw[rO];exact⟨Dx p.wg tm c cs,_,Dy p.wg tm c cs⟩
 ·rw[t_];exact⟨DH p.wg tm c cs,_,DI p.wg tm c cs⟩
 ·rw[ze];exact⟨DR p.wg tm c cs,_,DS p.wg tm c cs⟩
theorem LK (tm:Nat→Value)(v:Nat)(U:1≤v)(h5:v≤5):aZ Tryz.prog (.int .u64 (aP .op v)) (some (191,2)) (qJ Tryz.prog p.wg c cs tm v)=some ⟨nY Tryz.prog p.wg c cs tm v true,#[bE ⟨p.wg,0,none⟩,dr ⟨p.wg,0,none⟩],[⟨p.wg,0,none⟩,⟨p.wg,0,none⟩,⟨p.wg,0,none⟩],[p.wg],some (⟨p.wg,0,none⟩,.int .u64 (aP .bT v))⟩:=by
 unfold qJ nY;obtain rfl|rfl|rfl|rfl|rfl:v=1∨v=2∨v=3∨v=4∨v=5:=by omega
 ·rw[oD,V'];exact HL p.wg tm c cs
 ·rw[pW,Wa];exact HN p.wg tm c cs
 ·rw[rO,Wb];exact HP p.wg tm c cs
 ·rw[t_,Wc];exact HT p.wg tm c cs
 ·rw[ze,Wd];exact HV p.wg tm c cs
theorem kK {P:Program}{v:Value}{g:Goroutine}{l:List Addr}(h:je P v g=some l):g.offers=none:=by
 unfold je at h
 cases ho:eQ P g with
 |none=>rw[ho]at h;cases h
 |some s=>exact(vw ho true default).2.1
theorem TE (wg:Nat)(tm:Nat→Value):(jo Tryz.prog wg tm c cs 4294967296).offers=none:=(kK (rH wg tm c cs))
theorem TF (wg:Nat)(tm:Nat→Value):(jo Tryz.prog wg tm c cs 8589934592).offers=none:=(kK (rJ wg tm c cs))
theorem TG (wg:Nat)(tm:Nat→Value):(jo Tryz.prog wg tm c cs 12884901888).offers=none:=(kK (rK wg tm c cs))
theorem TH (wg:Nat)(tm:Nat→Value):(jo Tryz.prog wg tm c cs 17179869184).offers=none:=(kK (rL wg tm c cs))
theorem TI (wg:Nat)(tm:Nat→Value):(jo Tryz.prog wg tm c cs 21474836480).offers=none:=(kK (rM wg tm c cs))
theorem Eo (tm:Nat→Value)(he:p.eW=191)(hA:kJ γ p n0)(K:∀aQ w1 af w',Mv γ w aQ w1→wy p n0 w1→RM aQ.idle w1 af w'→MP (sys Tryz.prog) Q false 0 af w' (kh c cs)):MP (sys Tryz.prog) Q false 1 γ w (wv Tryz.prog p.wg tm c cs 4294967296):=
 oB (D9 p.wg tm c cs) (Lu p.wg tm c cs) (Di p.wg tm c cs) rfl (rH p.wg tm c cs) (HM p.wg tm c cs) (TE c cs p.wg tm) (Dj p.wg tm c cs) rfl (D_ p.wg tm c cs) (Dk p.wg tm c cs) rfl (Lv p.wg tm c cs) (Dl p.wg tm c cs) rfl (Ea p.wg tm c cs) (Ho p.wg tm c cs) (Dm p.wg tm c cs) (Hp p.wg tm c cs) he hA K
theorem Ep (tm:Nat→Value)(he:p.eW=191)(hA:kJ γ p n0)(K:∀aQ w1 af w',Mv γ w aQ w1→wy p n0 w1→RM aQ.idle w1 af w'→MP (sys Tryz.prog) Q false 0 af w' (kh c cs)):MP (sys Tryz.prog) Q false 1 γ w (wv Tryz.prog p.wg tm c cs 8589934592):=
 oB (Eb p.wg tm c cs) (Lw p.wg tm c cs) (Dr p.wg tm c cs) rfl (rJ p.wg tm c cs) (HO p.wg tm c cs) (TF c cs p.wg tm) (Ds p.wg tm c cs) rfl (Ec p.wg tm c cs) (Dt p.wg tm c cs) rfl (Lx p.wg tm c cs) (Du p.wg tm c cs) rfl (Ed p.wg tm c cs) (Hr p.wg tm c cs) (Dv p.wg tm c cs) (Hs p.wg tm c cs) he hA K
theorem Er (tm:Nat→Value)(he:p.eW=191)(hA:kJ γ p n0)(K:∀aQ w1 af w',Mv γ w aQ w1→wy p n0 w1→RM aQ.idle w1 af w'→MP (sys Tryz.prog) Q false 0 af w' (kh c cs)):MP (sys Tryz.prog) Q false 1 γ w (wv Tryz.prog p.wg tm c cs 12884901888):=
 oB (Ee p.wg tm c cs) (Ly p.wg tm c cs) (Dz p.wg tm c cs) rfl (rK p.wg tm c cs) (HR p.wg tm c cs) (TG c cs p.wg tm) (DC p.wg tm c cs) rfl (Ef p.wg tm c cs) (DD p.wg tm c cs) rfl (Lz p.wg tm c cs) (DE p.wg tm c cs) rfl (Eg p.wg tm c cs) (Hu p.wg tm c cs) (DF p.wg tm c cs) (Hv p.wg tm c cs) he hA K
theorem Es (tm:Nat→Value)(he:p.eW=191)(hA:kJ γ p n0)(K:∀aQ w1 af w',Mv γ w aQ w1→wy p n0 w1→RM aQ.idle w1 af w'→MP (sys Tryz.prog) Q false 0 af w' (kh c cs)):MP (sys Tryz.prog) Q false 1 γ w (wv Tryz.prog p.wg tm c cs 17179869184):=
 oB (Eh p.wg tm c cs) (LA p.wg tm c cs) (DJ p.wg tm c cs) rfl (rL p.wg tm c cs) (HU p.wg tm c cs) (TH c cs p.wg tm) (DK p.wg tm c cs) rfl (Ei p.wg tm c cs) (DL p.wg tm c cs) rfl (LB p.wg tm c cs) (DM p.wg tm c cs) rfl (Ej p.wg tm c cs) (Hx p.wg tm c cs) (DN p.wg tm c cs) (Hy p.wg tm c cs) he hA K
theorem Et (tm:Nat→Value)(he:p.eW=191)(hA:kJ γ p n0)(K:∀aQ w1 af w',Mv γ w aQ w1→wy p n0 w1→RM aQ.idle w1 af w'→MP (sys Tryz.prog) Q false 0 af w' (kh c cs)):MP (sys Tryz.prog) Q false 1 γ w (wv Tryz.prog p.wg tm c cs 21474836480):=
 oB (Ek p.wg tm c cs) (LC p.wg tm c cs) (DT p.wg tm c cs) rfl (rM p.wg tm c cs) (HW p.wg tm c cs) (TI c cs p.wg tm) (DU p.wg tm c cs) rfl (El p.wg tm c cs) (DV p.wg tm c cs) rfl (LD p.wg tm c cs) (DW p.wg tm c cs) rfl (Em p.wg tm c cs) (HD p.wg tm c cs) (DX p.wg tm c cs) (HF p.wg tm c cs) he hA K
theorem H7 (he:p.eW=191)(hA:fW γ p 0 n0)(K:∀aQ w1 af w',Mv γ w aQ w1→wy p n0 w1→RM aQ.idle w1 af w'→MP (sys Tryz.prog) Q false 0 af w' (kh c cs)):MP (sys Tryz.prog) Q false 0 γ w (Au Tryz.prog p.wg c cs):=by
 refine LI (T:=Nat→Value) (wlG:=fun tm=>wl Tryz.prog p.wg tm c cs) (l1:=fun tm=>Av Tryz.prog p.wg tm c cs) (l2:=yw Tryz.prog p.wg c cs) (c1:=qJ Tryz.prog p.wg c cs) (c2:=nY Tryz.prog p.wg c cs) (tm0:=wu (QW Tryz.prog p.wg c cs)) (Ln p.wg c cs) rfl (N' p.wg c cs) (Lo p.wg c cs) (Lp p.wg c cs)
  (fun tm=>Oc p.wg tm c cs) (fun tm=>rfl) (Oi c cs) (H5 c cs) (Oj c cs) (H6 c cs) (AD c cs) (LK c cs) (fun tm v U h5=>?_) he hA K
 unfold nY;obtain rfl|rfl|rfl|rfl|rfl:v=1∨v=2∨v=3∨v=4∨v=5:=by omega
 ·rw[oD];exact⟨Hn p.wg tm c cs,fun γ w hA K=>Eo c cs tm he hA K⟩
 ·rw[pW];exact⟨Hq p.wg tm c cs,fun γ w hA K=>Ep c cs tm he hA K⟩
 ·rw[rO];exact⟨Ht p.wg tm c cs,fun γ w hA K=>Er c cs tm he hA K⟩
 ·rw[t_];exact⟨Hw p.wg tm c cs,fun γ w hA K=>Es c cs tm he hA K⟩
 ·rw[ze];exact⟨Hz p.wg tm c cs,fun γ w hA K=>Et c cs tm he hA K⟩
end
end Go.Proofs.YtjklkppncmhehaaGreat.Sr
