/-
What is proved: the starter's way through Wait: reckoned by the kernel: which steps are silent, which touch the group. No condition.
-/
import Derived.Test.YtlhohdjniaebbaaGreatRy17
set_option linter.unusedVariables false
set_option linter.unusedSimpArgs false
namespace Go.Proofs.YtlhohdjniaebbaaGreat.Sr
open Go Go.Conc
def Dt (P:Program)(wg:Nat)(c:Frame)(cs:List Frame):Goroutine:={frame:=Frame.enter P 213 #[.pointer (some ⟨wg,0,none⟩)] .normal,callers:=c::cs,status:= .running,dying:=none}
def wt1 (P:Program)(wg:Nat)(c:Frame)(cs:List Frame):Goroutine:=aL P 3 (Dt P wg c cs)
def Zm (P:Program)(wg:Nat)(c:Frame)(cs:List Frame):Goroutine:=cR P (wt1 P wg c cs)
def WC (P:Program)(wg:Nat)(c:Frame)(cs:List Frame):Goroutine:=aL P 3 (Zm P wg c cs)
def wl (P:Program)(wg:Nat)(tm:Nat→Value)(c:Frame)(cs:List Frame):Goroutine:=
 {frame:={fn:=213,tmps:=(Value.pointer (some ⟨wg,0,none⟩)::(List.range 83).map tm).toArray,todo:=(WC P 0 c []).frame.todo,defers:=[],mode:= .run,kind:= .normal},callers:=c::cs,status:= .running,dying:=none}
def y8 (g:Goroutine)(i:Nat):Value:=g.frame.tmps.getD (i+1) undef
def Du (P:Program)(wg:Nat)(tm:Nat→Value)(c:Frame)(cs:List Frame):Goroutine:=aL P 16 (wl P wg tm c cs)
def rn (P:Program)(wg:Nat)(tm:Nat→Value)(c:Frame)(cs:List Frame)(s:Int):Goroutine:=aZ (Du P wg tm c cs) (.int .u64 s)
def WE (P:Program)(wg:Nat)(tm:Nat→Value)(c:Frame)(cs:List Frame):Goroutine:=aL P 31 (rn P wg tm c cs 0)
def wz2 (P:Program)(wg:Nat)(tm:Nat→Value)(c:Frame)(cs:List Frame):Goroutine:=aL P 3 (cR P (WE P wg tm c cs))
def Tl (P:Program)(wg:Nat)(tm:Nat→Value)(c:Frame)(cs:List Frame):Goroutine:=aZ (wz2 P wg tm c cs) (.pointer (some ⟨wg,0,none⟩))
def mC (P:Program)(wg:Nat)(tm:Nat→Value)(c:Frame)(cs:List Frame)(s:Int):Goroutine:=aL P 48 (rn P wg tm c cs s)
def eM (P:Program)(wg:Nat)(tm:Nat→Value)(c:Frame)(cs:List Frame)(s:Int)(b:Bool):Goroutine:=aZ (mC P wg tm c cs s) (.bool b)
def y9 (P:Program)(wg:Nat)(tm:Nat→Value)(c:Frame)(cs:List Frame)(s:Int):Goroutine:=aL P 19 (eM P wg tm c cs s true)
def nk (P:Program)(wg:Nat)(tm:Nat→Value)(c:Frame)(cs:List Frame)(s:Int):Goroutine:=aZ (y9 P wg tm c cs s) (.pointer (some ⟨wg,1,none⟩))
def kx (P:Program)(wg:Nat)(tm:Nat→Value)(c:Frame)(cs:List Frame)(s:Int):Goroutine:=aL P 23 (cR P (nk P wg tm c cs s))
def rp (P:Program)(wg:Nat)(tm:Nat→Value)(c:Frame)(cs:List Frame)(s:Int):Goroutine:=aL P 16 (aZ (kx P wg tm c cs s) (.tuple #[]))
def rq (P:Program)(wg:Nat)(tm:Nat→Value)(c:Frame)(cs:List Frame)(s:Int):Goroutine:=aL P 11 (aZ (rp P wg tm c cs s) (.int .u64 0))
def PW (P:Program)(wg:Nat)(tm:Nat→Value)(c:Frame)(cs:List Frame)(s:Int):Goroutine:=aL P 3 (cR P (rq P wg tm c cs s))
def kN (P:Program)(wg:Nat)(tm:Nat→Value)(c:Frame)(cs:List Frame)(s:Int):Goroutine:=aZ (PW P wg tm c cs s) (.pointer (some ⟨wg,0,none⟩))
section
variable(wg:Nat)(tm:Nat→Value)(c:Frame)(cs:List Frame)
set_option maxRecDepth 100000
theorem PX:mute Tryz.prog 3 (Dt Tryz.prog wg c cs)=true:=by kernel_rfl
theorem Tm:bU Tryz.prog (wt1 Tryz.prog wg c cs)=some (Zm Tryz.prog wg c cs,#[⟨.mark .disable,false,true⟩]):=by kernel_rfl
theorem PY:mute Tryz.prog 3 (Zm Tryz.prog wg c cs)=true:=by kernel_rfl
theorem PZ:WC Tryz.prog wg c cs=wl Tryz.prog wg (y8 (WC Tryz.prog wg c cs)) c cs:=by kernel_rfl
theorem Tn:mute Tryz.prog 16 (wl Tryz.prog wg tm c cs)=true:=by kernel_rfl
theorem P0:mute Tryz.prog 31 (rn Tryz.prog wg tm c cs 0)=true:=by kernel_rfl
theorem WG:bU Tryz.prog (WE Tryz.prog wg tm c cs)=some (cR Tryz.prog (WE Tryz.prog wg tm c cs),#[⟨.mark .enable,false,true⟩]):=by kernel_rfl
theorem P1:mute Tryz.prog 3 (cR Tryz.prog (WE Tryz.prog wg tm c cs))=true:=by kernel_rfl
theorem To:bU Tryz.prog (Tl Tryz.prog wg tm c cs)=some (cR Tryz.prog (Tl Tryz.prog wg tm c cs),#[⟨.mark (.acquire ⟨wg,0,none⟩),false,true⟩]):=by kernel_rfl
theorem P2:mute Tryz.prog 20 (cR Tryz.prog (Tl Tryz.prog wg tm c cs))=true:=by kernel_rfl
theorem Tp:aL Tryz.prog 20 (cR Tryz.prog (Tl Tryz.prog wg tm c cs))=iY c cs:=by kernel_rfl
theorem Gl:mute Tryz.prog 48 (rn Tryz.prog wg tm c cs 4294967296)=true:=by kernel_rfl
theorem Gm:mute Tryz.prog 9 (eM Tryz.prog wg tm c cs 4294967296 false)=true:=by kernel_rfl
theorem Gn:aL Tryz.prog 9 (eM Tryz.prog wg tm c cs 4294967296 false)=wl Tryz.prog wg (y8 (aL Tryz.prog 9 (eM Tryz.prog wg tm c cs 4294967296 false))) c cs:=by kernel_rfl
theorem K5:mute Tryz.prog 19 (eM Tryz.prog wg tm c cs 4294967296 true)=true:=by kernel_rfl
theorem P3:bU Tryz.prog (nk Tryz.prog wg tm c cs 4294967296)=some (cR Tryz.prog (nk Tryz.prog wg tm c cs 4294967296),#[⟨.mark (.write ⟨wg,1,none⟩),false,true⟩]):=by kernel_rfl
theorem Gp:mute Tryz.prog 23 (cR Tryz.prog (nk Tryz.prog wg tm c cs 4294967296))=true:=by kernel_rfl
theorem Gq:mute Tryz.prog 16 (aZ (kx Tryz.prog wg tm c cs 4294967296) (.tuple #[]))=true:=by kernel_rfl
theorem Gr:mute Tryz.prog 11 (aZ (rp Tryz.prog wg tm c cs 4294967296) (.int .u64 0))=true:=by kernel_rfl
theorem P4:bU Tryz.prog (rq Tryz.prog wg tm c cs 4294967296)=some (cR Tryz.prog (rq Tryz.prog wg tm c cs 4294967296),#[⟨.mark .enable,false,true⟩]):=by kernel_rfl
theorem Gs:mute Tryz.prog 3 (cR Tryz.prog (rq Tryz.prog wg tm c cs 4294967296))=true:=by kernel_rfl
theorem K6:bU Tryz.prog (kN Tryz.prog wg tm c cs 4294967296)=some (cR Tryz.prog (kN Tryz.prog wg tm c cs 4294967296),#[⟨.mark (.acquire ⟨wg,0,none⟩),false,true⟩]):=by kernel_rfl
theorem Gt:mute Tryz.prog 10 (cR Tryz.prog (kN Tryz.prog wg tm c cs 4294967296))=true:=by kernel_rfl
theorem K7:aL Tryz.prog 10 (cR Tryz.prog (kN Tryz.prog wg tm c cs 4294967296))=iY c cs:=by kernel_rfl
theorem Gu:mute Tryz.prog 48 (rn Tryz.prog wg tm c cs 8589934592)=true:=by kernel_rfl
theorem Gv:mute Tryz.prog 9 (eM Tryz.prog wg tm c cs 8589934592 false)=true:=by kernel_rfl
theorem Gw:aL Tryz.prog 9 (eM Tryz.prog wg tm c cs 8589934592 false)=wl Tryz.prog wg (y8 (aL Tryz.prog 9 (eM Tryz.prog wg tm c cs 8589934592 false))) c cs:=by kernel_rfl
theorem K8:mute Tryz.prog 19 (eM Tryz.prog wg tm c cs 8589934592 true)=true:=by kernel_rfl
theorem P5:bU Tryz.prog (nk Tryz.prog wg tm c cs 8589934592)=some (cR Tryz.prog (nk Tryz.prog wg tm c cs 8589934592),#[⟨.mark (.write ⟨wg,1,none⟩),false,true⟩]):=by kernel_rfl
theorem Gx:mute Tryz.prog 23 (cR Tryz.prog (nk Tryz.prog wg tm c cs 8589934592))=true:=by kernel_rfl
theorem Gy:mute Tryz.prog 16 (aZ (kx Tryz.prog wg tm c cs 8589934592) (.tuple #[]))=true:=by kernel_rfl
theorem Gz:mute Tryz.prog 11 (aZ (rp Tryz.prog wg tm c cs 8589934592) (.int .u64 0))=true:=by kernel_rfl
theorem P6:bU Tryz.prog (rq Tryz.prog wg tm c cs 8589934592)=some (cR Tryz.prog (rq Tryz.prog wg tm c cs 8589934592),#[⟨.mark .enable,false,true⟩]):=by kernel_rfl
theorem GA:mute Tryz.prog 3 (cR Tryz.prog (rq Tryz.prog wg tm c cs 8589934592))=true:=by kernel_rfl
theorem K9:bU Tryz.prog (kN Tryz.prog wg tm c cs 8589934592)=some (cR Tryz.prog (kN Tryz.prog wg tm c cs 8589934592),#[⟨.mark (.acquire ⟨wg,0,none⟩),false,true⟩]):=by kernel_rfl
theorem GB:mute Tryz.prog 10 (cR Tryz.prog (kN Tryz.prog wg tm c cs 8589934592))=true:=by kernel_rfl
theorem K_:aL Tryz.prog 10 (cR Tryz.prog (kN Tryz.prog wg tm c cs 8589934592))=iY c cs:=by kernel_rfl
theorem GC:mute Tryz.prog 48 (rn Tryz.prog wg tm c cs 12884901888)=true:=by kernel_rfl
theorem GD:mute Tryz.prog 9 (eM Tryz.prog wg tm c cs 12884901888 false)=true:=by kernel_rfl
theorem GF:aL Tryz.prog 9 (eM Tryz.prog wg tm c cs 12884901888 false)=wl Tryz.prog wg (y8 (aL Tryz.prog 9 (eM Tryz.prog wg tm c cs 12884901888 false))) c cs:=by kernel_rfl
theorem La:mute Tryz.prog 19 (eM Tryz.prog wg tm c cs 12884901888 true)=true:=by kernel_rfl
theorem P7:bU Tryz.prog (nk Tryz.prog wg tm c cs 12884901888)=some (cR Tryz.prog (nk Tryz.prog wg tm c cs 12884901888),#[⟨.mark (.write ⟨wg,1,none⟩),false,true⟩]):=by kernel_rfl
theorem GG:mute Tryz.prog 23 (cR Tryz.prog (nk Tryz.prog wg tm c cs 12884901888))=true:=by kernel_rfl
theorem GH:mute Tryz.prog 16 (aZ (kx Tryz.prog wg tm c cs 12884901888) (.tuple #[]))=true:=by kernel_rfl
theorem GI:mute Tryz.prog 11 (aZ (rp Tryz.prog wg tm c cs 12884901888) (.int .u64 0))=true:=by kernel_rfl
theorem P8:bU Tryz.prog (rq Tryz.prog wg tm c cs 12884901888)=some (cR Tryz.prog (rq Tryz.prog wg tm c cs 12884901888),#[⟨.mark .enable,false,true⟩]):=by kernel_rfl
theorem GJ:mute Tryz.prog 3 (cR Tryz.prog (rq Tryz.prog wg tm c cs 12884901888))=true:=by kernel_rfl
theorem Lb:bU Tryz.prog (kN Tryz.prog wg tm c cs 12884901888)=some (cR Tryz.prog (kN Tryz.prog wg tm c cs 12884901888),#[⟨.mark (.acquire ⟨wg,0,none⟩),false,true⟩]):=by kernel_rfl
theorem GK:mute Tryz.prog 10 (cR Tryz.prog (kN Tryz.prog wg tm c cs 12884901888))=true:=by kernel_rfl
theorem Lc:aL Tryz.prog 10 (cR Tryz.prog (kN Tryz.prog wg tm c cs 12884901888))=iY c cs:=by kernel_rfl
theorem GL:mute Tryz.prog 48 (rn Tryz.prog wg tm c cs 17179869184)=true:=by kernel_rfl
theorem GM:mute Tryz.prog 9 (eM Tryz.prog wg tm c cs 17179869184 false)=true:=by kernel_rfl
theorem GN:aL Tryz.prog 9 (eM Tryz.prog wg tm c cs 17179869184 false)=wl Tryz.prog wg (y8 (aL Tryz.prog 9 (eM Tryz.prog wg tm c cs 17179869184 false))) c cs:=by kernel_rfl
theorem Ld:mute Tryz.prog 19 (eM Tryz.prog wg tm c cs 17179869184 true)=true:=by kernel_rfl
theorem P9:bU Tryz.prog (nk Tryz.prog wg tm c cs 17179869184)=some (cR Tryz.prog (nk Tryz.prog wg tm c cs 17179869184),#[⟨.mark (.write ⟨wg,1,none⟩),false,true⟩]):=by kernel_rfl
theorem GO:mute Tryz.prog 23 (cR Tryz.prog (nk Tryz.prog wg tm c cs 17179869184))=true:=by kernel_rfl
theorem GP:mute Tryz.prog 16 (aZ (kx Tryz.prog wg tm c cs 17179869184) (.tuple #[]))=true:=by kernel_rfl
theorem GQ:mute Tryz.prog 11 (aZ (rp Tryz.prog wg tm c cs 17179869184) (.int .u64 0))=true:=by kernel_rfl
theorem P_:bU Tryz.prog (rq Tryz.prog wg tm c cs 17179869184)=some (cR Tryz.prog (rq Tryz.prog wg tm c cs 17179869184),#[⟨.mark .enable,false,true⟩]):=by kernel_rfl
theorem GR:mute Tryz.prog 3 (cR Tryz.prog (rq Tryz.prog wg tm c cs 17179869184))=true:=by kernel_rfl
theorem Le:bU Tryz.prog (kN Tryz.prog wg tm c cs 17179869184)=some (cR Tryz.prog (kN Tryz.prog wg tm c cs 17179869184),#[⟨.mark (.acquire ⟨wg,0,none⟩),false,true⟩]):=by kernel_rfl
theorem GU:mute Tryz.prog 10 (cR Tryz.prog (kN Tryz.prog wg tm c cs 17179869184))=true:=by kernel_rfl
theorem Lf:aL Tryz.prog 10 (cR Tryz.prog (kN Tryz.prog wg tm c cs 17179869184))=iY c cs:=by kernel_rfl
theorem GW:mute Tryz.prog 48 (rn Tryz.prog wg tm c cs 21474836480)=true:=by kernel_rfl
theorem GX:mute Tryz.prog 9 (eM Tryz.prog wg tm c cs 21474836480 false)=true:=by kernel_rfl
theorem GY:aL Tryz.prog 9 (eM Tryz.prog wg tm c cs 21474836480 false)=wl Tryz.prog wg (y8 (aL Tryz.prog 9 (eM Tryz.prog wg tm c cs 21474836480 false))) c cs:=by kernel_rfl
theorem Lg:mute Tryz.prog 19 (eM Tryz.prog wg tm c cs 21474836480 true)=true:=by kernel_rfl
theorem Qa:bU Tryz.prog (nk Tryz.prog wg tm c cs 21474836480)=some (cR Tryz.prog (nk Tryz.prog wg tm c cs 21474836480),#[⟨.mark (.write ⟨wg,1,none⟩),false,true⟩]):=by kernel_rfl
theorem GZ:mute Tryz.prog 23 (cR Tryz.prog (nk Tryz.prog wg tm c cs 21474836480))=true:=by kernel_rfl
theorem G0:mute Tryz.prog 16 (aZ (kx Tryz.prog wg tm c cs 21474836480) (.tuple #[]))=true:=by kernel_rfl
theorem G1:mute Tryz.prog 11 (aZ (rp Tryz.prog wg tm c cs 21474836480) (.int .u64 0))=true:=by kernel_rfl
theorem Qb:bU Tryz.prog (rq Tryz.prog wg tm c cs 21474836480)=some (cR Tryz.prog (rq Tryz.prog wg tm c cs 21474836480),#[⟨.mark .enable,false,true⟩]):=by kernel_rfl
theorem G2:mute Tryz.prog 3 (cR Tryz.prog (rq Tryz.prog wg tm c cs 21474836480))=true:=by kernel_rfl
theorem Lh:bU Tryz.prog (kN Tryz.prog wg tm c cs 21474836480)=some (cR Tryz.prog (kN Tryz.prog wg tm c cs 21474836480),#[⟨.mark (.acquire ⟨wg,0,none⟩),false,true⟩]):=by kernel_rfl
theorem G3:mute Tryz.prog 10 (cR Tryz.prog (kN Tryz.prog wg tm c cs 21474836480))=true:=by kernel_rfl
theorem Li:aL Tryz.prog 10 (cR Tryz.prog (kN Tryz.prog wg tm c cs 21474836480))=iY c cs:=by kernel_rfl
end
end Go.Proofs.YtlhohdjniaebbaaGreat.Sr
