/-
What is proved: the starter's way through Wait: reckoned by the kernel: which steps are silent, which touch the group. No condition.
-/
import Derived.Test.YtabjbdnokpjipaaGreatRw17
set_option linter.unusedVariables false
set_option linter.unusedSimpArgs false
namespace Go.Proofs.YtabjbdnokpjipaaGreat.Sr
open Go Go.Conc
def Hn (P:Program)(wg:Nat)(c:Frame)(cs:List Frame):Goroutine:={frame:=Frame.enter P 154 #[.pointer (some ⟨wg,0,none⟩)] .normal,callers:=c::cs,status:= .running,dying:=none}
def wt1 (P:Program)(wg:Nat)(c:Frame)(cs:List Frame):Goroutine:=aR P 3 (Hn P wg c cs)
def wt2 (P:Program)(wg:Nat)(c:Frame)(cs:List Frame):Goroutine:=dA P (wt1 P wg c cs)
def wt3 (P:Program)(wg:Nat)(c:Frame)(cs:List Frame):Goroutine:=aR P 3 (wt2 P wg c cs)
def wl (P:Program)(wg:Nat)(tm:Nat→Value)(c:Frame)(cs:List Frame):Goroutine:=
 {frame:={fn:=154,tmps:=(Value.pointer (some ⟨wg,0,none⟩)::(List.range 83).map tm).toArray,todo:=(wt3 P 0 c []).frame.todo,defers:=[],mode:= .run,kind:= .normal},callers:=c::cs,status:= .running,dying:=none}
def CB (g:Goroutine)(i:Nat):Value:=g.frame.tmps.getD (i+1) undef
def Ho (P:Program)(wg:Nat)(tm:Nat→Value)(c:Frame)(cs:List Frame):Goroutine:=aR P 16 (wl P wg tm c cs)
def vn (P:Program)(wg:Nat)(tm:Nat→Value)(c:Frame)(cs:List Frame)(s:Int):Goroutine:=bm (Ho P wg tm c cs) (.int .u64 s)
def wz1 (P:Program)(wg:Nat)(tm:Nat→Value)(c:Frame)(cs:List Frame):Goroutine:=aR P 31 (vn P wg tm c cs 0)
def wz2 (P:Program)(wg:Nat)(tm:Nat→Value)(c:Frame)(cs:List Frame):Goroutine:=aR P 3 (dA P (wz1 P wg tm c cs))
def Xd (P:Program)(wg:Nat)(tm:Nat→Value)(c:Frame)(cs:List Frame):Goroutine:=bm (wz2 P wg tm c cs) (.pointer (some ⟨wg,0,none⟩))
def o9 (P:Program)(wg:Nat)(tm:Nat→Value)(c:Frame)(cs:List Frame)(s:Int):Goroutine:=aR P 48 (vn P wg tm c cs s)
def gg (P:Program)(wg:Nat)(tm:Nat→Value)(c:Frame)(cs:List Frame)(s:Int)(b:Bool):Goroutine:=bm (o9 P wg tm c cs s) (.bool b)
def CC (P:Program)(wg:Nat)(tm:Nat→Value)(c:Frame)(cs:List Frame)(s:Int):Goroutine:=aR P 19 (gg P wg tm c cs s true)
def pT (P:Program)(wg:Nat)(tm:Nat→Value)(c:Frame)(cs:List Frame)(s:Int):Goroutine:=bm (CC P wg tm c cs s) (.pointer (some ⟨wg,1,none⟩))
def mP (P:Program)(wg:Nat)(tm:Nat→Value)(c:Frame)(cs:List Frame)(s:Int):Goroutine:=aR P 23 (dA P (pT P wg tm c cs s))
def vo (P:Program)(wg:Nat)(tm:Nat→Value)(c:Frame)(cs:List Frame)(s:Int):Goroutine:=aR P 16 (bm (mP P wg tm c cs s) (.tuple #[]))
def vp (P:Program)(wg:Nat)(tm:Nat→Value)(c:Frame)(cs:List Frame)(s:Int):Goroutine:=aR P 11 (bm (vo P wg tm c cs s) (.int .u64 0))
def TO (P:Program)(wg:Nat)(tm:Nat→Value)(c:Frame)(cs:List Frame)(s:Int):Goroutine:=aR P 3 (dA P (vp P wg tm c cs s))
def nj (P:Program)(wg:Nat)(tm:Nat→Value)(c:Frame)(cs:List Frame)(s:Int):Goroutine:=bm (TO P wg tm c cs s) (.pointer (some ⟨wg,0,none⟩))
section
variable(wg:Nat)(tm:Nat→Value)(c:Frame)(cs:List Frame)
set_option maxRecDepth 100000
theorem TP:mute Tryz.prog 3 (Hn Tryz.prog wg c cs)=true:=by kernel_rfl
theorem Xe:cn Tryz.prog (wt1 Tryz.prog wg c cs)=some (wt2 Tryz.prog wg c cs,#[⟨.mark .disable,false,true⟩]):=by kernel_rfl
theorem TQ:mute Tryz.prog 3 (wt2 Tryz.prog wg c cs)=true:=by kernel_rfl
theorem TR:wt3 Tryz.prog wg c cs=wl Tryz.prog wg (CB (wt3 Tryz.prog wg c cs)) c cs:=by kernel_rfl
theorem Xf:mute Tryz.prog 16 (wl Tryz.prog wg tm c cs)=true:=by kernel_rfl
theorem TS:mute Tryz.prog 31 (vn Tryz.prog wg tm c cs 0)=true:=by kernel_rfl
theorem aao:cn Tryz.prog (wz1 Tryz.prog wg tm c cs)=some (dA Tryz.prog (wz1 Tryz.prog wg tm c cs),#[⟨.mark .enable,false,true⟩]):=by kernel_rfl
theorem TT:mute Tryz.prog 3 (dA Tryz.prog (wz1 Tryz.prog wg tm c cs))=true:=by kernel_rfl
theorem Xg:cn Tryz.prog (Xd Tryz.prog wg tm c cs)=some (dA Tryz.prog (Xd Tryz.prog wg tm c cs),#[⟨.mark (.acquire ⟨wg,0,none⟩),false,true⟩]):=by kernel_rfl
theorem TU:mute Tryz.prog 20 (dA Tryz.prog (Xd Tryz.prog wg tm c cs))=true:=by kernel_rfl
theorem Xh:aR Tryz.prog 20 (dA Tryz.prog (Xd Tryz.prog wg tm c cs))=kM c cs:=by kernel_rfl
theorem Kg:mute Tryz.prog 48 (vn Tryz.prog wg tm c cs 4294967296)=true:=by kernel_rfl
theorem Kh:mute Tryz.prog 9 (gg Tryz.prog wg tm c cs 4294967296 false)=true:=by kernel_rfl
theorem Ki:aR Tryz.prog 9 (gg Tryz.prog wg tm c cs 4294967296 false)=wl Tryz.prog wg (CB (aR Tryz.prog 9 (gg Tryz.prog wg tm c cs 4294967296 false))) c cs:=by kernel_rfl
theorem OW:mute Tryz.prog 19 (gg Tryz.prog wg tm c cs 4294967296 true)=true:=by kernel_rfl
theorem TX:cn Tryz.prog (pT Tryz.prog wg tm c cs 4294967296)=some (dA Tryz.prog (pT Tryz.prog wg tm c cs 4294967296),#[⟨.mark (.write ⟨wg,1,none⟩),false,true⟩]):=by kernel_rfl
theorem Kj:mute Tryz.prog 23 (dA Tryz.prog (pT Tryz.prog wg tm c cs 4294967296))=true:=by kernel_rfl
theorem Kk:mute Tryz.prog 16 (bm (mP Tryz.prog wg tm c cs 4294967296) (.tuple #[]))=true:=by kernel_rfl
theorem Kl:mute Tryz.prog 11 (bm (vo Tryz.prog wg tm c cs 4294967296) (.int .u64 0))=true:=by kernel_rfl
theorem TY:cn Tryz.prog (vp Tryz.prog wg tm c cs 4294967296)=some (dA Tryz.prog (vp Tryz.prog wg tm c cs 4294967296),#[⟨.mark .enable,false,true⟩]):=by kernel_rfl
theorem Km:mute Tryz.prog 3 (dA Tryz.prog (vp Tryz.prog wg tm c cs 4294967296))=true:=by kernel_rfl
theorem OX:cn Tryz.prog (nj Tryz.prog wg tm c cs 4294967296)=some (dA Tryz.prog (nj Tryz.prog wg tm c cs 4294967296),#[⟨.mark (.acquire ⟨wg,0,none⟩),false,true⟩]):=by kernel_rfl
theorem Kn:mute Tryz.prog 10 (dA Tryz.prog (nj Tryz.prog wg tm c cs 4294967296))=true:=by kernel_rfl
theorem OY:aR Tryz.prog 10 (dA Tryz.prog (nj Tryz.prog wg tm c cs 4294967296))=kM c cs:=by kernel_rfl
theorem Ko:mute Tryz.prog 48 (vn Tryz.prog wg tm c cs 8589934592)=true:=by kernel_rfl
theorem Kq:mute Tryz.prog 9 (gg Tryz.prog wg tm c cs 8589934592 false)=true:=by kernel_rfl
theorem Kr:aR Tryz.prog 9 (gg Tryz.prog wg tm c cs 8589934592 false)=wl Tryz.prog wg (CB (aR Tryz.prog 9 (gg Tryz.prog wg tm c cs 8589934592 false))) c cs:=by kernel_rfl
theorem OZ:mute Tryz.prog 19 (gg Tryz.prog wg tm c cs 8589934592 true)=true:=by kernel_rfl
theorem TZ:cn Tryz.prog (pT Tryz.prog wg tm c cs 8589934592)=some (dA Tryz.prog (pT Tryz.prog wg tm c cs 8589934592),#[⟨.mark (.write ⟨wg,1,none⟩),false,true⟩]):=by kernel_rfl
theorem Ks:mute Tryz.prog 23 (dA Tryz.prog (pT Tryz.prog wg tm c cs 8589934592))=true:=by kernel_rfl
theorem Kt:mute Tryz.prog 16 (bm (mP Tryz.prog wg tm c cs 8589934592) (.tuple #[]))=true:=by kernel_rfl
theorem Ku:mute Tryz.prog 11 (bm (vo Tryz.prog wg tm c cs 8589934592) (.int .u64 0))=true:=by kernel_rfl
theorem T0:cn Tryz.prog (vp Tryz.prog wg tm c cs 8589934592)=some (dA Tryz.prog (vp Tryz.prog wg tm c cs 8589934592),#[⟨.mark .enable,false,true⟩]):=by kernel_rfl
theorem Kv:mute Tryz.prog 3 (dA Tryz.prog (vp Tryz.prog wg tm c cs 8589934592))=true:=by kernel_rfl
theorem O0:cn Tryz.prog (nj Tryz.prog wg tm c cs 8589934592)=some (dA Tryz.prog (nj Tryz.prog wg tm c cs 8589934592),#[⟨.mark (.acquire ⟨wg,0,none⟩),false,true⟩]):=by kernel_rfl
theorem Kw:mute Tryz.prog 10 (dA Tryz.prog (nj Tryz.prog wg tm c cs 8589934592))=true:=by kernel_rfl
theorem O7:aR Tryz.prog 10 (dA Tryz.prog (nj Tryz.prog wg tm c cs 8589934592))=kM c cs:=by kernel_rfl
theorem Kx:mute Tryz.prog 48 (vn Tryz.prog wg tm c cs 12884901888)=true:=by kernel_rfl
theorem Ky:mute Tryz.prog 9 (gg Tryz.prog wg tm c cs 12884901888 false)=true:=by kernel_rfl
theorem Kz:aR Tryz.prog 9 (gg Tryz.prog wg tm c cs 12884901888 false)=wl Tryz.prog wg (CB (aR Tryz.prog 9 (gg Tryz.prog wg tm c cs 12884901888 false))) c cs:=by kernel_rfl
theorem O_:mute Tryz.prog 19 (gg Tryz.prog wg tm c cs 12884901888 true)=true:=by kernel_rfl
theorem T3:cn Tryz.prog (pT Tryz.prog wg tm c cs 12884901888)=some (dA Tryz.prog (pT Tryz.prog wg tm c cs 12884901888),#[⟨.mark (.write ⟨wg,1,none⟩),false,true⟩]):=by kernel_rfl
theorem KA:mute Tryz.prog 23 (dA Tryz.prog (pT Tryz.prog wg tm c cs 12884901888))=true:=by kernel_rfl
theorem KB:mute Tryz.prog 16 (bm (mP Tryz.prog wg tm c cs 12884901888) (.tuple #[]))=true:=by kernel_rfl
theorem KD:mute Tryz.prog 11 (bm (vo Tryz.prog wg tm c cs 12884901888) (.int .u64 0))=true:=by kernel_rfl
theorem T4:cn Tryz.prog (vp Tryz.prog wg tm c cs 12884901888)=some (dA Tryz.prog (vp Tryz.prog wg tm c cs 12884901888),#[⟨.mark .enable,false,true⟩]):=by kernel_rfl
theorem KE:mute Tryz.prog 3 (dA Tryz.prog (vp Tryz.prog wg tm c cs 12884901888))=true:=by kernel_rfl
theorem Pa:cn Tryz.prog (nj Tryz.prog wg tm c cs 12884901888)=some (dA Tryz.prog (nj Tryz.prog wg tm c cs 12884901888),#[⟨.mark (.acquire ⟨wg,0,none⟩),false,true⟩]):=by kernel_rfl
theorem KF:mute Tryz.prog 10 (dA Tryz.prog (nj Tryz.prog wg tm c cs 12884901888))=true:=by kernel_rfl
theorem Pb:aR Tryz.prog 10 (dA Tryz.prog (nj Tryz.prog wg tm c cs 12884901888))=kM c cs:=by kernel_rfl
theorem KH:mute Tryz.prog 48 (vn Tryz.prog wg tm c cs 17179869184)=true:=by kernel_rfl
theorem KI:mute Tryz.prog 9 (gg Tryz.prog wg tm c cs 17179869184 false)=true:=by kernel_rfl
theorem KJ:aR Tryz.prog 9 (gg Tryz.prog wg tm c cs 17179869184 false)=wl Tryz.prog wg (CB (aR Tryz.prog 9 (gg Tryz.prog wg tm c cs 17179869184 false))) c cs:=by kernel_rfl
theorem ae0:mute Tryz.prog 19 (gg Tryz.prog wg tm c cs 17179869184 true)=true:=by kernel_rfl
theorem T5:cn Tryz.prog (pT Tryz.prog wg tm c cs 17179869184)=some (dA Tryz.prog (pT Tryz.prog wg tm c cs 17179869184),#[⟨.mark (.write ⟨wg,1,none⟩),false,true⟩]):=by kernel_rfl
theorem KL:mute Tryz.prog 23 (dA Tryz.prog (pT Tryz.prog wg tm c cs 17179869184))=true:=by kernel_rfl
theorem KN:mute Tryz.prog 16 (bm (mP Tryz.prog wg tm c cs 17179869184) (.tuple #[]))=true:=by kernel_rfl
theorem KO:mute Tryz.prog 11 (bm (vo Tryz.prog wg tm c cs 17179869184) (.int .u64 0))=true:=by kernel_rfl
theorem T6:cn Tryz.prog (vp Tryz.prog wg tm c cs 17179869184)=some (dA Tryz.prog (vp Tryz.prog wg tm c cs 17179869184),#[⟨.mark .enable,false,true⟩]):=by kernel_rfl
theorem KP:mute Tryz.prog 3 (dA Tryz.prog (vp Tryz.prog wg tm c cs 17179869184))=true:=by kernel_rfl
theorem Pd:cn Tryz.prog (nj Tryz.prog wg tm c cs 17179869184)=some (dA Tryz.prog (nj Tryz.prog wg tm c cs 17179869184),#[⟨.mark (.acquire ⟨wg,0,none⟩),false,true⟩]):=by kernel_rfl
theorem KQ:mute Tryz.prog 10 (dA Tryz.prog (nj Tryz.prog wg tm c cs 17179869184))=true:=by kernel_rfl
theorem Pe:aR Tryz.prog 10 (dA Tryz.prog (nj Tryz.prog wg tm c cs 17179869184))=kM c cs:=by kernel_rfl
theorem KR:mute Tryz.prog 48 (vn Tryz.prog wg tm c cs 21474836480)=true:=by kernel_rfl
theorem KS:mute Tryz.prog 9 (gg Tryz.prog wg tm c cs 21474836480 false)=true:=by kernel_rfl
theorem KU:aR Tryz.prog 9 (gg Tryz.prog wg tm c cs 21474836480 false)=wl Tryz.prog wg (CB (aR Tryz.prog 9 (gg Tryz.prog wg tm c cs 21474836480 false))) c cs:=by kernel_rfl
theorem Pf:mute Tryz.prog 19 (gg Tryz.prog wg tm c cs 21474836480 true)=true:=by kernel_rfl
theorem T7:cn Tryz.prog (pT Tryz.prog wg tm c cs 21474836480)=some (dA Tryz.prog (pT Tryz.prog wg tm c cs 21474836480),#[⟨.mark (.write ⟨wg,1,none⟩),false,true⟩]):=by kernel_rfl
theorem KV:mute Tryz.prog 23 (dA Tryz.prog (pT Tryz.prog wg tm c cs 21474836480))=true:=by kernel_rfl
theorem KW:mute Tryz.prog 16 (bm (mP Tryz.prog wg tm c cs 21474836480) (.tuple #[]))=true:=by kernel_rfl
theorem KX:mute Tryz.prog 11 (bm (vo Tryz.prog wg tm c cs 21474836480) (.int .u64 0))=true:=by kernel_rfl
theorem T8:cn Tryz.prog (vp Tryz.prog wg tm c cs 21474836480)=some (dA Tryz.prog (vp Tryz.prog wg tm c cs 21474836480),#[⟨.mark .enable,false,true⟩]):=by kernel_rfl
theorem KY:mute Tryz.prog 3 (dA Tryz.prog (vp Tryz.prog wg tm c cs 21474836480))=true:=by kernel_rfl
theorem Pg:cn Tryz.prog (nj Tryz.prog wg tm c cs 21474836480)=some (dA Tryz.prog (nj Tryz.prog wg tm c cs 21474836480),#[⟨.mark (.acquire ⟨wg,0,none⟩),false,true⟩]):=by kernel_rfl
theorem KZ:mute Tryz.prog 10 (dA Tryz.prog (nj Tryz.prog wg tm c cs 21474836480))=true:=by kernel_rfl
theorem Pj:aR Tryz.prog 10 (dA Tryz.prog (nj Tryz.prog wg tm c cs 21474836480))=kM c cs:=by kernel_rfl
end
end Go.Proofs.YtabjbdnokpjipaaGreat.Sr
