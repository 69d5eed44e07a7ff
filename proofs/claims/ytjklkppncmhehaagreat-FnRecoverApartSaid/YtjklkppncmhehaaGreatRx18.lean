/-
What is proved: the starter's way through Wait: reckoned by the kernel: which steps are silent, which touch the group. No condition.
-/
import Derived.Test.YtjklkppncmhehaaGreatRx17
set_option linter.unusedVariables false
set_option linter.unusedSimpArgs false
namespace Go.Proofs.YtjklkppncmhehaaGreat.Sr
open Go Go.Conc
def DR (P:Program)(wg:Nat)(c:Frame)(cs:List Frame):Goroutine:={frame:=Frame.enter P 162 #[.pointer (some ⟨wg,0,none⟩)] .normal,callers:=c::cs,status:= .running,dying:=none}
def Y_ (P:Program)(wg:Nat)(c:Frame)(cs:List Frame):Goroutine:=aN P 3 (DR P wg c cs)
def W5 (P:Program)(wg:Nat)(c:Frame)(cs:List Frame):Goroutine:=dB P (Y_ P wg c cs)
def UO (P:Program)(wg:Nat)(c:Frame)(cs:List Frame):Goroutine:=aN P 3 (W5 P wg c cs)
def wl (P:Program)(wg:Nat)(tm:Nat→Value)(c:Frame)(cs:List Frame):Goroutine:=
 {frame:={fn:=162,tmps:=(Value.pointer (some ⟨wg,0,none⟩)::(List.range 83).map tm).toArray,todo:=(UO P 0 c []).frame.todo,defers:=[],mode:= .run,kind:= .normal},callers:=c::cs,status:= .running,dying:=none}
def zz (g:Goroutine)(i:Nat):Value:=g.frame.tmps.getD (i+1) undef
def DS (P:Program)(wg:Nat)(tm:Nat→Value)(c:Frame)(cs:List Frame):Goroutine:=aN P 16 (wl P wg tm c cs)
def sj (P:Program)(wg:Nat)(tm:Nat→Value)(c:Frame)(cs:List Frame)(s:Int):Goroutine:=bu (DS P wg tm c cs) (.int .u64 s)
def UP (P:Program)(wg:Nat)(tm:Nat→Value)(c:Frame)(cs:List Frame):Goroutine:=aN P 31 (sj P wg tm c cs 0)
def Y' (P:Program)(wg:Nat)(tm:Nat→Value)(c:Frame)(cs:List Frame):Goroutine:=aN P 3 (dB P (UP P wg tm c cs))
def RQ (P:Program)(wg:Nat)(tm:Nat→Value)(c:Frame)(cs:List Frame):Goroutine:=bu (Y' P wg tm c cs) (.pointer (some ⟨wg,0,none⟩))
def nh (P:Program)(wg:Nat)(tm:Nat→Value)(c:Frame)(cs:List Frame)(s:Int):Goroutine:=aN P 48 (sj P wg tm c cs s)
def eU (P:Program)(wg:Nat)(tm:Nat→Value)(c:Frame)(cs:List Frame)(s:Int)(b:Bool):Goroutine:=bu (nh P wg tm c cs s) (.bool b)
def zA (P:Program)(wg:Nat)(tm:Nat→Value)(c:Frame)(cs:List Frame)(s:Int):Goroutine:=aN P 19 (eU P wg tm c cs s true)
def nV (P:Program)(wg:Nat)(tm:Nat→Value)(c:Frame)(cs:List Frame)(s:Int):Goroutine:=bu (zA P wg tm c cs s) (.pointer (some ⟨wg,1,none⟩))
def kW (P:Program)(wg:Nat)(tm:Nat→Value)(c:Frame)(cs:List Frame)(s:Int):Goroutine:=aN P 23 (dB P (nV P wg tm c cs s))
def sk (P:Program)(wg:Nat)(tm:Nat→Value)(c:Frame)(cs:List Frame)(s:Int):Goroutine:=aN P 16 (bu (kW P wg tm c cs s) (.tuple #[]))
def sn (P:Program)(wg:Nat)(tm:Nat→Value)(c:Frame)(cs:List Frame)(s:Int):Goroutine:=aN P 11 (bu (sk P wg tm c cs s) (.int .u64 0))
def O0 (P:Program)(wg:Nat)(tm:Nat→Value)(c:Frame)(cs:List Frame)(s:Int):Goroutine:=aN P 3 (dB P (sn P wg tm c cs s))
def lr (P:Program)(wg:Nat)(tm:Nat→Value)(c:Frame)(cs:List Frame)(s:Int):Goroutine:=bu (O0 P wg tm c cs s) (.pointer (some ⟨wg,0,none⟩))
section
variable(wg:Nat)(tm:Nat→Value)(c:Frame)(cs:List Frame)
set_option maxRecDepth 100000
theorem O7:mute Tryz.prog 3 (DR Tryz.prog wg c cs)=true:=by kernel_rfl
theorem RS:bX Tryz.prog (Y_ Tryz.prog wg c cs)=some (W5 Tryz.prog wg c cs,#[⟨.mark .disable,false,true⟩]):=by kernel_rfl
theorem O_:mute Tryz.prog 3 (W5 Tryz.prog wg c cs)=true:=by kernel_rfl
theorem Pa:UO Tryz.prog wg c cs=wl Tryz.prog wg (zz (UO Tryz.prog wg c cs)) c cs:=by kernel_rfl
theorem RU:mute Tryz.prog 16 (wl Tryz.prog wg tm c cs)=true:=by kernel_rfl
theorem Pb:mute Tryz.prog 31 (sj Tryz.prog wg tm c cs 0)=true:=by kernel_rfl
theorem UQ:bX Tryz.prog (UP Tryz.prog wg tm c cs)=some (dB Tryz.prog (UP Tryz.prog wg tm c cs),#[⟨.mark .enable,false,true⟩]):=by kernel_rfl
theorem Pc:mute Tryz.prog 3 (dB Tryz.prog (UP Tryz.prog wg tm c cs))=true:=by kernel_rfl
theorem RV:bX Tryz.prog (RQ Tryz.prog wg tm c cs)=some (dB Tryz.prog (RQ Tryz.prog wg tm c cs),#[⟨.mark (.acquire ⟨wg,0,none⟩),false,true⟩]):=by kernel_rfl
theorem Pd:mute Tryz.prog 20 (dB Tryz.prog (RQ Tryz.prog wg tm c cs))=true:=by kernel_rfl
theorem RX:aN Tryz.prog 20 (dB Tryz.prog (RQ Tryz.prog wg tm c cs))=lZ c cs:=by kernel_rfl
theorem GH:mute Tryz.prog 48 (sj Tryz.prog wg tm c cs 4294967296)=true:=by kernel_rfl
theorem GI:mute Tryz.prog 9 (eU Tryz.prog wg tm c cs 4294967296 false)=true:=by kernel_rfl
theorem GJ:aN Tryz.prog 9 (eU Tryz.prog wg tm c cs 4294967296 false)=wl Tryz.prog wg (zz (aN Tryz.prog 9 (eU Tryz.prog wg tm c cs 4294967296 false))) c cs:=by kernel_rfl
theorem KO:mute Tryz.prog 19 (eU Tryz.prog wg tm c cs 4294967296 true)=true:=by kernel_rfl
theorem Pe:bX Tryz.prog (nV Tryz.prog wg tm c cs 4294967296)=some (dB Tryz.prog (nV Tryz.prog wg tm c cs 4294967296),#[⟨.mark (.write ⟨wg,1,none⟩),false,true⟩]):=by kernel_rfl
theorem GK:mute Tryz.prog 23 (dB Tryz.prog (nV Tryz.prog wg tm c cs 4294967296))=true:=by kernel_rfl
theorem GL:mute Tryz.prog 16 (bu (kW Tryz.prog wg tm c cs 4294967296) (.tuple #[]))=true:=by kernel_rfl
theorem GM:mute Tryz.prog 11 (bu (sk Tryz.prog wg tm c cs 4294967296) (.int .u64 0))=true:=by kernel_rfl
theorem Pf:bX Tryz.prog (sn Tryz.prog wg tm c cs 4294967296)=some (dB Tryz.prog (sn Tryz.prog wg tm c cs 4294967296),#[⟨.mark .enable,false,true⟩]):=by kernel_rfl
theorem GN:mute Tryz.prog 3 (dB Tryz.prog (sn Tryz.prog wg tm c cs 4294967296))=true:=by kernel_rfl
theorem KP:bX Tryz.prog (lr Tryz.prog wg tm c cs 4294967296)=some (dB Tryz.prog (lr Tryz.prog wg tm c cs 4294967296),#[⟨.mark (.acquire ⟨wg,0,none⟩),false,true⟩]):=by kernel_rfl
theorem GO:mute Tryz.prog 10 (dB Tryz.prog (lr Tryz.prog wg tm c cs 4294967296))=true:=by kernel_rfl
theorem KQ:aN Tryz.prog 10 (dB Tryz.prog (lr Tryz.prog wg tm c cs 4294967296))=lZ c cs:=by kernel_rfl
theorem GP:mute Tryz.prog 48 (sj Tryz.prog wg tm c cs 8589934592)=true:=by kernel_rfl
theorem GQ:mute Tryz.prog 9 (eU Tryz.prog wg tm c cs 8589934592 false)=true:=by kernel_rfl
theorem GR:aN Tryz.prog 9 (eU Tryz.prog wg tm c cs 8589934592 false)=wl Tryz.prog wg (zz (aN Tryz.prog 9 (eU Tryz.prog wg tm c cs 8589934592 false))) c cs:=by kernel_rfl
theorem KR:mute Tryz.prog 19 (eU Tryz.prog wg tm c cs 8589934592 true)=true:=by kernel_rfl
theorem Pg:bX Tryz.prog (nV Tryz.prog wg tm c cs 8589934592)=some (dB Tryz.prog (nV Tryz.prog wg tm c cs 8589934592),#[⟨.mark (.write ⟨wg,1,none⟩),false,true⟩]):=by kernel_rfl
theorem GS:mute Tryz.prog 23 (dB Tryz.prog (nV Tryz.prog wg tm c cs 8589934592))=true:=by kernel_rfl
theorem GU:mute Tryz.prog 16 (bu (kW Tryz.prog wg tm c cs 8589934592) (.tuple #[]))=true:=by kernel_rfl
theorem GW:mute Tryz.prog 11 (bu (sk Tryz.prog wg tm c cs 8589934592) (.int .u64 0))=true:=by kernel_rfl
theorem Pj:bX Tryz.prog (sn Tryz.prog wg tm c cs 8589934592)=some (dB Tryz.prog (sn Tryz.prog wg tm c cs 8589934592),#[⟨.mark .enable,false,true⟩]):=by kernel_rfl
theorem GX:mute Tryz.prog 3 (dB Tryz.prog (sn Tryz.prog wg tm c cs 8589934592))=true:=by kernel_rfl
theorem KS:bX Tryz.prog (lr Tryz.prog wg tm c cs 8589934592)=some (dB Tryz.prog (lr Tryz.prog wg tm c cs 8589934592),#[⟨.mark (.acquire ⟨wg,0,none⟩),false,true⟩]):=by kernel_rfl
theorem GY:mute Tryz.prog 10 (dB Tryz.prog (lr Tryz.prog wg tm c cs 8589934592))=true:=by kernel_rfl
theorem KU:aN Tryz.prog 10 (dB Tryz.prog (lr Tryz.prog wg tm c cs 8589934592))=lZ c cs:=by kernel_rfl
theorem GZ:mute Tryz.prog 48 (sj Tryz.prog wg tm c cs 12884901888)=true:=by kernel_rfl
theorem G1:mute Tryz.prog 9 (eU Tryz.prog wg tm c cs 12884901888 false)=true:=by kernel_rfl
theorem G3:aN Tryz.prog 9 (eU Tryz.prog wg tm c cs 12884901888 false)=wl Tryz.prog wg (zz (aN Tryz.prog 9 (eU Tryz.prog wg tm c cs 12884901888 false))) c cs:=by kernel_rfl
theorem KV:mute Tryz.prog 19 (eU Tryz.prog wg tm c cs 12884901888 true)=true:=by kernel_rfl
theorem Pk:bX Tryz.prog (nV Tryz.prog wg tm c cs 12884901888)=some (dB Tryz.prog (nV Tryz.prog wg tm c cs 12884901888),#[⟨.mark (.write ⟨wg,1,none⟩),false,true⟩]):=by kernel_rfl
theorem G4:mute Tryz.prog 23 (dB Tryz.prog (nV Tryz.prog wg tm c cs 12884901888))=true:=by kernel_rfl
theorem G5:mute Tryz.prog 16 (bu (kW Tryz.prog wg tm c cs 12884901888) (.tuple #[]))=true:=by kernel_rfl
theorem G6:mute Tryz.prog 11 (bu (sk Tryz.prog wg tm c cs 12884901888) (.int .u64 0))=true:=by kernel_rfl
theorem Pm:bX Tryz.prog (sn Tryz.prog wg tm c cs 12884901888)=some (dB Tryz.prog (sn Tryz.prog wg tm c cs 12884901888),#[⟨.mark .enable,false,true⟩]):=by kernel_rfl
theorem G7:mute Tryz.prog 3 (dB Tryz.prog (sn Tryz.prog wg tm c cs 12884901888))=true:=by kernel_rfl
theorem KW:bX Tryz.prog (lr Tryz.prog wg tm c cs 12884901888)=some (dB Tryz.prog (lr Tryz.prog wg tm c cs 12884901888),#[⟨.mark (.acquire ⟨wg,0,none⟩),false,true⟩]):=by kernel_rfl
theorem G8:mute Tryz.prog 10 (dB Tryz.prog (lr Tryz.prog wg tm c cs 12884901888))=true:=by kernel_rfl
theorem KX:aN Tryz.prog 10 (dB Tryz.prog (lr Tryz.prog wg tm c cs 12884901888))=lZ c cs:=by kernel_rfl
theorem G9:mute Tryz.prog 48 (sj Tryz.prog wg tm c cs 17179869184)=true:=by kernel_rfl
theorem G_:mute Tryz.prog 9 (eU Tryz.prog wg tm c cs 17179869184 false)=true:=by kernel_rfl
theorem G':aN Tryz.prog 9 (eU Tryz.prog wg tm c cs 17179869184 false)=wl Tryz.prog wg (zz (aN Tryz.prog 9 (eU Tryz.prog wg tm c cs 17179869184 false))) c cs:=by kernel_rfl
theorem KY:mute Tryz.prog 19 (eU Tryz.prog wg tm c cs 17179869184 true)=true:=by kernel_rfl
theorem Pn:bX Tryz.prog (nV Tryz.prog wg tm c cs 17179869184)=some (dB Tryz.prog (nV Tryz.prog wg tm c cs 17179869184),#[⟨.mark (.write ⟨wg,1,none⟩),false,true⟩]):=by kernel_rfl
theorem Ha:mute Tryz.prog 23 (dB Tryz.prog (nV Tryz.prog wg tm c cs 17179869184))=true:=by kernel_rfl
theorem Hd:mute Tryz.prog 16 (bu (kW Tryz.prog wg tm c cs 17179869184) (.tuple #[]))=true:=by kernel_rfl
theorem He:mute Tryz.prog 11 (bu (sk Tryz.prog wg tm c cs 17179869184) (.int .u64 0))=true:=by kernel_rfl
theorem Po:bX Tryz.prog (sn Tryz.prog wg tm c cs 17179869184)=some (dB Tryz.prog (sn Tryz.prog wg tm c cs 17179869184),#[⟨.mark .enable,false,true⟩]):=by kernel_rfl
theorem Hf:mute Tryz.prog 3 (dB Tryz.prog (sn Tryz.prog wg tm c cs 17179869184))=true:=by kernel_rfl
theorem KZ:bX Tryz.prog (lr Tryz.prog wg tm c cs 17179869184)=some (dB Tryz.prog (lr Tryz.prog wg tm c cs 17179869184),#[⟨.mark (.acquire ⟨wg,0,none⟩),false,true⟩]):=by kernel_rfl
theorem Hg:mute Tryz.prog 10 (dB Tryz.prog (lr Tryz.prog wg tm c cs 17179869184))=true:=by kernel_rfl
theorem K0:aN Tryz.prog 10 (dB Tryz.prog (lr Tryz.prog wg tm c cs 17179869184))=lZ c cs:=by kernel_rfl
theorem Hh:mute Tryz.prog 48 (sj Tryz.prog wg tm c cs 21474836480)=true:=by kernel_rfl
theorem Hi:mute Tryz.prog 9 (eU Tryz.prog wg tm c cs 21474836480 false)=true:=by kernel_rfl
theorem Hj:aN Tryz.prog 9 (eU Tryz.prog wg tm c cs 21474836480 false)=wl Tryz.prog wg (zz (aN Tryz.prog 9 (eU Tryz.prog wg tm c cs 21474836480 false))) c cs:=by kernel_rfl
theorem K1:mute Tryz.prog 19 (eU Tryz.prog wg tm c cs 21474836480 true)=true:=by kernel_rfl
theorem Pp:bX Tryz.prog (nV Tryz.prog wg tm c cs 21474836480)=some (dB Tryz.prog (nV Tryz.prog wg tm c cs 21474836480),#[⟨.mark (.write ⟨wg,1,none⟩),false,true⟩]):=by kernel_rfl
theorem Hk:mute Tryz.prog 23 (dB Tryz.prog (nV Tryz.prog wg tm c cs 21474836480))=true:=by kernel_rfl
theorem Hl:mute Tryz.prog 16 (bu (kW Tryz.prog wg tm c cs 21474836480) (.tuple #[]))=true:=by kernel_rfl
theorem Hm:mute Tryz.prog 11 (bu (sk Tryz.prog wg tm c cs 21474836480) (.int .u64 0))=true:=by kernel_rfl
theorem Pq:bX Tryz.prog (sn Tryz.prog wg tm c cs 21474836480)=some (dB Tryz.prog (sn Tryz.prog wg tm c cs 21474836480),#[⟨.mark .enable,false,true⟩]):=by kernel_rfl
theorem Hn:mute Tryz.prog 3 (dB Tryz.prog (sn Tryz.prog wg tm c cs 21474836480))=true:=by kernel_rfl
theorem K3:bX Tryz.prog (lr Tryz.prog wg tm c cs 21474836480)=some (dB Tryz.prog (lr Tryz.prog wg tm c cs 21474836480),#[⟨.mark (.acquire ⟨wg,0,none⟩),false,true⟩]):=by kernel_rfl
theorem Ho:mute Tryz.prog 10 (dB Tryz.prog (lr Tryz.prog wg tm c cs 21474836480))=true:=by kernel_rfl
theorem K4:aN Tryz.prog 10 (dB Tryz.prog (lr Tryz.prog wg tm c cs 21474836480))=lZ c cs:=by kernel_rfl
end
end Go.Proofs.YtjklkppncmhehaaGreat.Sr
