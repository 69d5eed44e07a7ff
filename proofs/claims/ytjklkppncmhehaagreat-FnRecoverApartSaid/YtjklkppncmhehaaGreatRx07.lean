/-
What is proved: the worker's way from its last store on: the deferred Done, reckoned by the kernel: which steps are silent, which touch the group. No condition.
-/
import Derived.Test.YtjklkppncmhehaaGreatRx06
import Derived.KernelRfl
set_option linter.unusedVariables false
set_option linter.unusedSimpArgs false
namespace Go.Proofs.YtjklkppncmhehaaGreat.Sr
open Go Go.Conc
def xk (P:Program):Frame:={(default:Frame)with fn:=P.funcs.size,defers:=[],mode:= .panicking [goexitEntry]}
def Uj (P:Program)(wg:Nat)(t:Array Value):Goroutine:=
 {frame:={fn:=160,tmps:=t,todo:=[],defers:=[{target:= .fn (.func 161) #[],args:= #[.pointer (some ⟨wg,0,none⟩)]}],mode:= .run,kind:= .deferred},
  callers:=[xk P],status:= .running,dying:=none}
def Yx (P:Program)(wg:Nat)(t:Array Value):Goroutine:=aN P 16 (Uj P wg t)
def Ww (P:Program)(wg:Nat)(t:Array Value):Goroutine:=bu (Yx P wg t) (.pointer (some ⟨wg,0,none⟩))
def dB (P:Program)(g:Goroutine):Goroutine:=match bX P g with|some (g',_)=>g'|none=>g
def Wx (P:Program)(wg:Nat)(t:Array Value):Goroutine:=dB P (Ww P wg t)
def Yy (P:Program)(wg:Nat)(t:Array Value):Goroutine:=aN P 3 (Wx P wg t)
def Wy (P:Program)(wg:Nat)(t:Array Value):Goroutine:=dB P (Yy P wg t)
def xZ (P:Program)(wg:Nat)(t:Array Value):Goroutine:=aN P 34 (Wy P wg t)
def mD (P:Program)(wg:Nat)(t:Array Value)(s:Int):Goroutine:=bu (xZ P wg t) (.int .u64 s)
def Uk (P:Program)(wg:Nat)(t:Array Value):Goroutine:=aN P 103 (mD P wg t 1)
def Ul (P:Program)(wg:Nat)(t:Array Value):Goroutine:=aN P 20 (bu (Uk P wg t) (.int .u64 1))
def MZ (P:Program)(wg:Nat)(t:Array Value):Goroutine:=aN P 27 (bu (Ul P wg t) (.tuple #[]))
section
variable(wg:Nat)(t:Array Value)
set_option maxRecDepth 100000
theorem N8:mute Tryz.prog 16 (Uj Tryz.prog wg t)=true:=by kernel_rfl
theorem Q3:bX Tryz.prog (Ww Tryz.prog wg t)=some (Wx Tryz.prog wg t,#[⟨.mark (.releaseMerge ⟨wg,0,none⟩),false,true⟩]):=by kernel_rfl
theorem N9:mute Tryz.prog 3 (Wx Tryz.prog wg t)=true:=by kernel_rfl
theorem Q4:bX Tryz.prog (Yy Tryz.prog wg t)=some (Wy Tryz.prog wg t,#[⟨.mark .disable,false,true⟩]):=by kernel_rfl
theorem N_:mute Tryz.prog 34 (Wy Tryz.prog wg t)=true:=by kernel_rfl
theorem y8:g_ Tryz.prog 110 1 (mD Tryz.prog wg t 0)=true:=by kernel_rfl
theorem y9:g_ Tryz.prog 110 1 (mD Tryz.prog wg t 4294967296)=true:=by kernel_rfl
theorem y_:g_ Tryz.prog 110 1 (mD Tryz.prog wg t 4294967297)=true:=by kernel_rfl
theorem za:g_ Tryz.prog 110 1 (mD Tryz.prog wg t 8589934592)=true:=by kernel_rfl
theorem zb:g_ Tryz.prog 110 1 (mD Tryz.prog wg t 8589934593)=true:=by kernel_rfl
theorem zc:g_ Tryz.prog 110 1 (mD Tryz.prog wg t 12884901888)=true:=by kernel_rfl
theorem zd:g_ Tryz.prog 110 1 (mD Tryz.prog wg t 12884901889)=true:=by kernel_rfl
theorem ze:g_ Tryz.prog 110 1 (mD Tryz.prog wg t 17179869184)=true:=by kernel_rfl
theorem zf:g_ Tryz.prog 110 1 (mD Tryz.prog wg t 17179869185)=true:=by kernel_rfl
theorem N':mute Tryz.prog 103 (mD Tryz.prog wg t 1)=true:=by kernel_rfl
theorem Oc:mute Tryz.prog 20 (bu (Uk Tryz.prog wg t) (.int .u64 1))=true:=by kernel_rfl
theorem Od:mute Tryz.prog 27 (bu (Ul Tryz.prog wg t) (.tuple #[]))=true:=by kernel_rfl
theorem F8:g_ Tryz.prog 30 1 (bu (MZ Tryz.prog wg t) (.tuple #[]))=true:=by kernel_rfl
end
end Go.Proofs.YtjklkppncmhehaaGreat.Sr
