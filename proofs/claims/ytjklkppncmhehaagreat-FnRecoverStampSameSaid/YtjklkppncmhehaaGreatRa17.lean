/-
What is proved: the starter's way through Wait: reckoned by the kernel: which steps are silent, which touch the group. No condition.
-/
import Derived.Test.YtjklkppncmhehaaGreatRa16
set_option linter.unusedVariables false
set_option linter.unusedSimpArgs false
namespace Go.Proofs.YtjklkppncmhehaaGreat.Sr
open Go Go.Conc
def Au (P:Program)(wg:Nat)(c:Frame)(cs:List Frame):Goroutine:={frame:=Frame.enter P 162 #[.pointer (some ⟨wg,0,none⟩)] .normal,callers:=c::cs,status:= .running,dying:=none}
def VY (P:Program)(wg:Nat)(c:Frame)(cs:List Frame):Goroutine:=aE P 3 (Au P wg c cs)
def TA (P:Program)(wg:Nat)(c:Frame)(cs:List Frame):Goroutine:=cQ P (VY P wg c cs)
def QW (P:Program)(wg:Nat)(c:Frame)(cs:List Frame):Goroutine:=aE P 3 (TA P wg c cs)
def wl (P:Program)(wg:Nat)(tm:Nat→Value)(c:Frame)(cs:List Frame):Goroutine:=
 {frame:={fn:=162,tmps:=(Value.pointer (some ⟨wg,0,none⟩)::(List.range 83).map tm).toArray,todo:=(QW P 0 c []).frame.todo,defers:=[],mode:= .run,kind:= .normal},callers:=c::cs,status:= .running,dying:=none}
def wu (g:Goroutine)(i:Nat):Value:=g.frame.tmps.getD (i+1) undef
def Av (P:Program)(wg:Nat)(tm:Nat→Value)(c:Frame)(cs:List Frame):Goroutine:=aE P 16 (wl P wg tm c cs)
def pE (P:Program)(wg:Nat)(tm:Nat→Value)(c:Frame)(cs:List Frame)(s:Int):Goroutine:=bf (Av P wg tm c cs) (.int .u64 s)
def QX (P:Program)(wg:Nat)(tm:Nat→Value)(c:Frame)(cs:List Frame):Goroutine:=aE P 31 (pE P wg tm c cs 0)
def VZ (P:Program)(wg:Nat)(tm:Nat→Value)(c:Frame)(cs:List Frame):Goroutine:=aE P 3 (cQ P (QX P wg tm c cs))
def N_ (P:Program)(wg:Nat)(tm:Nat→Value)(c:Frame)(cs:List Frame):Goroutine:=bf (VZ P wg tm c cs) (.pointer (some ⟨wg,0,none⟩))
def lj (P:Program)(wg:Nat)(tm:Nat→Value)(c:Frame)(cs:List Frame)(s:Int):Goroutine:=aE P 48 (pE P wg tm c cs s)
def dH (P:Program)(wg:Nat)(tm:Nat→Value)(c:Frame)(cs:List Frame)(s:Int)(b:Bool):Goroutine:=bf (lj P wg tm c cs s) (.bool b)
def wv (P:Program)(wg:Nat)(tm:Nat→Value)(c:Frame)(cs:List Frame)(s:Int):Goroutine:=aE P 19 (dH P wg tm c cs s true)
def lX (P:Program)(wg:Nat)(tm:Nat→Value)(c:Frame)(cs:List Frame)(s:Int):Goroutine:=bf (wv P wg tm c cs s) (.pointer (some ⟨wg,1,none⟩))
def jo (P:Program)(wg:Nat)(tm:Nat→Value)(c:Frame)(cs:List Frame)(s:Int):Goroutine:=aE P 23 (cQ P (lX P wg tm c cs s))
def pF (P:Program)(wg:Nat)(tm:Nat→Value)(c:Frame)(cs:List Frame)(s:Int):Goroutine:=aE P 16 (bf (jo P wg tm c cs s) (.tuple #[]))
def pG (P:Program)(wg:Nat)(tm:Nat→Value)(c:Frame)(cs:List Frame)(s:Int):Goroutine:=aE P 11 (bf (pF P wg tm c cs s) (.int .u64 0))
def Lm (P:Program)(wg:Nat)(tm:Nat→Value)(c:Frame)(cs:List Frame)(s:Int):Goroutine:=aE P 3 (cQ P (pG P wg tm c cs s))
def jH (P:Program)(wg:Nat)(tm:Nat→Value)(c:Frame)(cs:List Frame)(s:Int):Goroutine:=bf (Lm P wg tm c cs s) (.pointer (some ⟨wg,0,none⟩))
section
variable(wg:Nat)(tm:Nat→Value)(c:Frame)(cs:List Frame)
set_option maxRecDepth 100000
theorem Ln:mute Tryz.prog 3 (Au Tryz.prog wg c cs)=true:=by kernel_rfl
theorem N':bM Tryz.prog (VY Tryz.prog wg c cs)=some (TA Tryz.prog wg c cs,#[⟨.mark .disable,false,true⟩]):=by kernel_rfl
theorem Lo:mute Tryz.prog 3 (TA Tryz.prog wg c cs)=true:=by kernel_rfl
theorem Lp:QW Tryz.prog wg c cs=wl Tryz.prog wg (wu (QW Tryz.prog wg c cs)) c cs:=by kernel_rfl
theorem Oc:mute Tryz.prog 16 (wl Tryz.prog wg tm c cs)=true:=by kernel_rfl
theorem Lq:mute Tryz.prog 31 (pE Tryz.prog wg tm c cs 0)=true:=by kernel_rfl
theorem QY:bM Tryz.prog (QX Tryz.prog wg tm c cs)=some (cQ Tryz.prog (QX Tryz.prog wg tm c cs),#[⟨.mark .enable,false,true⟩]):=by kernel_rfl
theorem Lr:mute Tryz.prog 3 (cQ Tryz.prog (QX Tryz.prog wg tm c cs))=true:=by kernel_rfl
theorem Od:bM Tryz.prog (N_ Tryz.prog wg tm c cs)=some (cQ Tryz.prog (N_ Tryz.prog wg tm c cs),#[⟨.mark (.acquire ⟨wg,0,none⟩),false,true⟩]):=by kernel_rfl
theorem Ls:mute Tryz.prog 20 (cQ Tryz.prog (N_ Tryz.prog wg tm c cs))=true:=by kernel_rfl
theorem Oe:aE Tryz.prog 20 (cQ Tryz.prog (N_ Tryz.prog wg tm c cs))=kh c cs:=by kernel_rfl
theorem Df:mute Tryz.prog 48 (pE Tryz.prog wg tm c cs 4294967296)=true:=by kernel_rfl
theorem Dg:mute Tryz.prog 9 (dH Tryz.prog wg tm c cs 4294967296 false)=true:=by kernel_rfl
theorem Dh:aE Tryz.prog 9 (dH Tryz.prog wg tm c cs 4294967296 false)=wl Tryz.prog wg (wu (aE Tryz.prog 9 (dH Tryz.prog wg tm c cs 4294967296 false))) c cs:=by kernel_rfl
theorem Hn:mute Tryz.prog 19 (dH Tryz.prog wg tm c cs 4294967296 true)=true:=by kernel_rfl
theorem Lu:bM Tryz.prog (lX Tryz.prog wg tm c cs 4294967296)=some (cQ Tryz.prog (lX Tryz.prog wg tm c cs 4294967296),#[⟨.mark (.write ⟨wg,1,none⟩),false,true⟩]):=by kernel_rfl
theorem Di:mute Tryz.prog 23 (cQ Tryz.prog (lX Tryz.prog wg tm c cs 4294967296))=true:=by kernel_rfl
theorem Dj:mute Tryz.prog 16 (bf (jo Tryz.prog wg tm c cs 4294967296) (.tuple #[]))=true:=by kernel_rfl
theorem Dk:mute Tryz.prog 11 (bf (pF Tryz.prog wg tm c cs 4294967296) (.int .u64 0))=true:=by kernel_rfl
theorem Lv:bM Tryz.prog (pG Tryz.prog wg tm c cs 4294967296)=some (cQ Tryz.prog (pG Tryz.prog wg tm c cs 4294967296),#[⟨.mark .enable,false,true⟩]):=by kernel_rfl
theorem Dl:mute Tryz.prog 3 (cQ Tryz.prog (pG Tryz.prog wg tm c cs 4294967296))=true:=by kernel_rfl
theorem Ho:bM Tryz.prog (jH Tryz.prog wg tm c cs 4294967296)=some (cQ Tryz.prog (jH Tryz.prog wg tm c cs 4294967296),#[⟨.mark (.acquire ⟨wg,0,none⟩),false,true⟩]):=by kernel_rfl
theorem Dm:mute Tryz.prog 10 (cQ Tryz.prog (jH Tryz.prog wg tm c cs 4294967296))=true:=by kernel_rfl
theorem Hp:aE Tryz.prog 10 (cQ Tryz.prog (jH Tryz.prog wg tm c cs 4294967296))=kh c cs:=by kernel_rfl
theorem Dn:mute Tryz.prog 48 (pE Tryz.prog wg tm c cs 8589934592)=true:=by kernel_rfl
theorem Dp:mute Tryz.prog 9 (dH Tryz.prog wg tm c cs 8589934592 false)=true:=by kernel_rfl
theorem Dq:aE Tryz.prog 9 (dH Tryz.prog wg tm c cs 8589934592 false)=wl Tryz.prog wg (wu (aE Tryz.prog 9 (dH Tryz.prog wg tm c cs 8589934592 false))) c cs:=by kernel_rfl
theorem Hq:mute Tryz.prog 19 (dH Tryz.prog wg tm c cs 8589934592 true)=true:=by kernel_rfl
theorem Lw:bM Tryz.prog (lX Tryz.prog wg tm c cs 8589934592)=some (cQ Tryz.prog (lX Tryz.prog wg tm c cs 8589934592),#[⟨.mark (.write ⟨wg,1,none⟩),false,true⟩]):=by kernel_rfl
theorem Dr:mute Tryz.prog 23 (cQ Tryz.prog (lX Tryz.prog wg tm c cs 8589934592))=true:=by kernel_rfl
theorem Ds:mute Tryz.prog 16 (bf (jo Tryz.prog wg tm c cs 8589934592) (.tuple #[]))=true:=by kernel_rfl
theorem Dt:mute Tryz.prog 11 (bf (pF Tryz.prog wg tm c cs 8589934592) (.int .u64 0))=true:=by kernel_rfl
theorem Lx:bM Tryz.prog (pG Tryz.prog wg tm c cs 8589934592)=some (cQ Tryz.prog (pG Tryz.prog wg tm c cs 8589934592),#[⟨.mark .enable,false,true⟩]):=by kernel_rfl
theorem Du:mute Tryz.prog 3 (cQ Tryz.prog (pG Tryz.prog wg tm c cs 8589934592))=true:=by kernel_rfl
theorem Hr:bM Tryz.prog (jH Tryz.prog wg tm c cs 8589934592)=some (cQ Tryz.prog (jH Tryz.prog wg tm c cs 8589934592),#[⟨.mark (.acquire ⟨wg,0,none⟩),false,true⟩]):=by kernel_rfl
theorem Dv:mute Tryz.prog 10 (cQ Tryz.prog (jH Tryz.prog wg tm c cs 8589934592))=true:=by kernel_rfl
theorem Hs:aE Tryz.prog 10 (cQ Tryz.prog (jH Tryz.prog wg tm c cs 8589934592))=kh c cs:=by kernel_rfl
theorem Dw:mute Tryz.prog 48 (pE Tryz.prog wg tm c cs 12884901888)=true:=by kernel_rfl
theorem Dx:mute Tryz.prog 9 (dH Tryz.prog wg tm c cs 12884901888 false)=true:=by kernel_rfl
theorem Dy:aE Tryz.prog 9 (dH Tryz.prog wg tm c cs 12884901888 false)=wl Tryz.prog wg (wu (aE Tryz.prog 9 (dH Tryz.prog wg tm c cs 12884901888 false))) c cs:=by kernel_rfl
theorem Ht:mute Tryz.prog 19 (dH Tryz.prog wg tm c cs 12884901888 true)=true:=by kernel_rfl
theorem Ly:bM Tryz.prog (lX Tryz.prog wg tm c cs 12884901888)=some (cQ Tryz.prog (lX Tryz.prog wg tm c cs 12884901888),#[⟨.mark (.write ⟨wg,1,none⟩),false,true⟩]):=by kernel_rfl
theorem Dz:mute Tryz.prog 23 (cQ Tryz.prog (lX Tryz.prog wg tm c cs 12884901888))=true:=by kernel_rfl
theorem DC:mute Tryz.prog 16 (bf (jo Tryz.prog wg tm c cs 12884901888) (.tuple #[]))=true:=by kernel_rfl
theorem DD:mute Tryz.prog 11 (bf (pF Tryz.prog wg tm c cs 12884901888) (.int .u64 0))=true:=by kernel_rfl
theorem Lz:bM Tryz.prog (pG Tryz.prog wg tm c cs 12884901888)=some (cQ Tryz.prog (pG Tryz.prog wg tm c cs 12884901888),#[⟨.mark .enable,false,true⟩]):=by kernel_rfl
theorem DE:mute Tryz.prog 3 (cQ Tryz.prog (pG Tryz.prog wg tm c cs 12884901888))=true:=by kernel_rfl
theorem Hu:bM Tryz.prog (jH Tryz.prog wg tm c cs 12884901888)=some (cQ Tryz.prog (jH Tryz.prog wg tm c cs 12884901888),#[⟨.mark (.acquire ⟨wg,0,none⟩),false,true⟩]):=by kernel_rfl
theorem DF:mute Tryz.prog 10 (cQ Tryz.prog (jH Tryz.prog wg tm c cs 12884901888))=true:=by kernel_rfl
theorem Hv:aE Tryz.prog 10 (cQ Tryz.prog (jH Tryz.prog wg tm c cs 12884901888))=kh c cs:=by kernel_rfl
theorem DG:mute Tryz.prog 48 (pE Tryz.prog wg tm c cs 17179869184)=true:=by kernel_rfl
theorem DH:mute Tryz.prog 9 (dH Tryz.prog wg tm c cs 17179869184 false)=true:=by kernel_rfl
theorem DI:aE Tryz.prog 9 (dH Tryz.prog wg tm c cs 17179869184 false)=wl Tryz.prog wg (wu (aE Tryz.prog 9 (dH Tryz.prog wg tm c cs 17179869184 false))) c cs:=by kernel_rfl
theorem Hw:mute Tryz.prog 19 (dH Tryz.prog wg tm c cs 17179869184 true)=true:=by kernel_rfl
theorem LA:bM Tryz.prog (lX Tryz.prog wg tm c cs 17179869184)=some (cQ Tryz.prog (lX Tryz.prog wg tm c cs 17179869184),#[⟨.mark (.write ⟨wg,1,none⟩),false,true⟩]):=by kernel_rfl
theorem DJ:mute Tryz.prog 23 (cQ Tryz.prog (lX Tryz.prog wg tm c cs 17179869184))=true:=by kernel_rfl
theorem DK:mute Tryz.prog 16 (bf (jo Tryz.prog wg tm c cs 17179869184) (.tuple #[]))=true:=by kernel_rfl
theorem DL:mute Tryz.prog 11 (bf (pF Tryz.prog wg tm c cs 17179869184) (.int .u64 0))=true:=by kernel_rfl
theorem LB:bM Tryz.prog (pG Tryz.prog wg tm c cs 17179869184)=some (cQ Tryz.prog (pG Tryz.prog wg tm c cs 17179869184),#[⟨.mark .enable,false,true⟩]):=by kernel_rfl
theorem DM:mute Tryz.prog 3 (cQ Tryz.prog (pG Tryz.prog wg tm c cs 17179869184))=true:=by kernel_rfl
theorem Hx:bM Tryz.prog (jH Tryz.prog wg tm c cs 17179869184)=some (cQ Tryz.prog (jH Tryz.prog wg tm c cs 17179869184),#[⟨.mark (.acquire ⟨wg,0,none⟩),false,true⟩]):=by kernel_rfl
theorem DN:mute Tryz.prog 10 (cQ Tryz.prog (jH Tryz.prog wg tm c cs 17179869184))=true:=by kernel_rfl
theorem Hy:aE Tryz.prog 10 (cQ Tryz.prog (jH Tryz.prog wg tm c cs 17179869184))=kh c cs:=by kernel_rfl
theorem DQ:mute Tryz.prog 48 (pE Tryz.prog wg tm c cs 21474836480)=true:=by kernel_rfl
theorem DR:mute Tryz.prog 9 (dH Tryz.prog wg tm c cs 21474836480 false)=true:=by kernel_rfl
theorem DS:aE Tryz.prog 9 (dH Tryz.prog wg tm c cs 21474836480 false)=wl Tryz.prog wg (wu (aE Tryz.prog 9 (dH Tryz.prog wg tm c cs 21474836480 false))) c cs:=by kernel_rfl
theorem Hz:mute Tryz.prog 19 (dH Tryz.prog wg tm c cs 21474836480 true)=true:=by kernel_rfl
theorem LC:bM Tryz.prog (lX Tryz.prog wg tm c cs 21474836480)=some (cQ Tryz.prog (lX Tryz.prog wg tm c cs 21474836480),#[⟨.mark (.write ⟨wg,1,none⟩),false,true⟩]):=by kernel_rfl
theorem DT:mute Tryz.prog 23 (cQ Tryz.prog (lX Tryz.prog wg tm c cs 21474836480))=true:=by kernel_rfl
theorem DU:mute Tryz.prog 16 (bf (jo Tryz.prog wg tm c cs 21474836480) (.tuple #[]))=true:=by kernel_rfl
theorem DV:mute Tryz.prog 11 (bf (pF Tryz.prog wg tm c cs 21474836480) (.int .u64 0))=true:=by kernel_rfl
theorem LD:bM Tryz.prog (pG Tryz.prog wg tm c cs 21474836480)=some (cQ Tryz.prog (pG Tryz.prog wg tm c cs 21474836480),#[⟨.mark .enable,false,true⟩]):=by kernel_rfl
theorem DW:mute Tryz.prog 3 (cQ Tryz.prog (pG Tryz.prog wg tm c cs 21474836480))=true:=by kernel_rfl
theorem HD:bM Tryz.prog (jH Tryz.prog wg tm c cs 21474836480)=some (cQ Tryz.prog (jH Tryz.prog wg tm c cs 21474836480),#[⟨.mark (.acquire ⟨wg,0,none⟩),false,true⟩]):=by kernel_rfl
theorem DX:mute Tryz.prog 10 (cQ Tryz.prog (jH Tryz.prog wg tm c cs 21474836480))=true:=by kernel_rfl
theorem HF:aE Tryz.prog 10 (cQ Tryz.prog (jH Tryz.prog wg tm c cs 21474836480))=kh c cs:=by kernel_rfl
end
end Go.Proofs.YtjklkppncmhehaaGreat.Sr
