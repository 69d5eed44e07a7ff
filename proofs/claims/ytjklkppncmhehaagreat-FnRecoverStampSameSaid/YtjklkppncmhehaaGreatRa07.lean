/-
What is proved: the worker's way from its last store on: the deferred Done, reckoned by the kernel: which steps are silent, which touch the group. No condition.
-/
import Derived.Test.YtjklkppncmhehaaGreatRa06
import Derived.KernelRfl
set_option linter.unusedVariables false
set_option linter.unusedSimpArgs false
namespace Go.Proofs.YtjklkppncmhehaaGreat.Sr
open Go Go.Conc
def tX (P:Program):Frame:={(default:Frame)with fn:=P.funcs.size,defers:=[],mode:= .panicking [goexitEntry]}
def Qo (P:Program)(wg:Nat)(t:Array Value):Goroutine:=
 {frame:={fn:=160,tmps:=t,todo:=[],defers:=[{target:= .fn (.func 161) #[],args:= #[.pointer (some ⟨wg,0,none⟩)]}],mode:= .run,kind:= .deferred},
  callers:=[tX P],status:= .running,dying:=none}
def Ve (P:Program)(wg:Nat)(t:Array Value):Goroutine:=aE P 16 (Qo P wg t)
def SW (P:Program)(wg:Nat)(t:Array Value):Goroutine:=bf (Ve P wg t) (.pointer (some ⟨wg,0,none⟩))
def cQ (P:Program)(g:Goroutine):Goroutine:=match bM P g with|some (g',_)=>g'|none=>g
def SX (P:Program)(wg:Nat)(t:Array Value):Goroutine:=cQ P (SW P wg t)
def Vf (P:Program)(wg:Nat)(t:Array Value):Goroutine:=aE P 3 (SX P wg t)
def SY (P:Program)(wg:Nat)(t:Array Value):Goroutine:=cQ P (Vf P wg t)
def uG (P:Program)(wg:Nat)(t:Array Value):Goroutine:=aE P 34 (SY P wg t)
def kE (P:Program)(wg:Nat)(t:Array Value)(s:Int):Goroutine:=bf (uG P wg t) (.int .u64 s)
def Qp (P:Program)(wg:Nat)(t:Array Value):Goroutine:=aE P 103 (kE P wg t 1)
def Qq (P:Program)(wg:Nat)(t:Array Value):Goroutine:=aE P 20 (bf (Qp P wg t) (.int .u64 1))
def Jw (P:Program)(wg:Nat)(t:Array Value):Goroutine:=aE P 27 (bf (Qq P wg t) (.tuple #[]))
section
variable(wg:Nat)(t:Array Value)
set_option maxRecDepth 100000
theorem Ks:mute Tryz.prog 16 (Qo Tryz.prog wg t)=true:=by kernel_rfl
theorem Nk:bM Tryz.prog (SW Tryz.prog wg t)=some (SX Tryz.prog wg t,#[⟨.mark (.releaseMerge ⟨wg,0,none⟩),false,true⟩]):=by kernel_rfl
theorem Kt:mute Tryz.prog 3 (SX Tryz.prog wg t)=true:=by kernel_rfl
theorem Nl:bM Tryz.prog (Vf Tryz.prog wg t)=some (SY Tryz.prog wg t,#[⟨.mark .disable,false,true⟩]):=by kernel_rfl
theorem Ku:mute Tryz.prog 34 (SY Tryz.prog wg t)=true:=by kernel_rfl
theorem vz:fq Tryz.prog 110 1 (kE Tryz.prog wg t 0)=true:=by kernel_rfl
theorem vA:fq Tryz.prog 110 1 (kE Tryz.prog wg t 4294967296)=true:=by kernel_rfl
theorem vB:fq Tryz.prog 110 1 (kE Tryz.prog wg t 4294967297)=true:=by kernel_rfl
theorem vC:fq Tryz.prog 110 1 (kE Tryz.prog wg t 8589934592)=true:=by kernel_rfl
theorem vD:fq Tryz.prog 110 1 (kE Tryz.prog wg t 8589934593)=true:=by kernel_rfl
theorem vE:fq Tryz.prog 110 1 (kE Tryz.prog wg t 12884901888)=true:=by kernel_rfl
theorem vF:fq Tryz.prog 110 1 (kE Tryz.prog wg t 12884901889)=true:=by kernel_rfl
theorem vG:fq Tryz.prog 110 1 (kE Tryz.prog wg t 17179869184)=true:=by kernel_rfl
theorem vH:fq Tryz.prog 110 1 (kE Tryz.prog wg t 17179869185)=true:=by kernel_rfl
theorem Kv:mute Tryz.prog 103 (kE Tryz.prog wg t 1)=true:=by kernel_rfl
theorem Kw:mute Tryz.prog 20 (bf (Qp Tryz.prog wg t) (.int .u64 1))=true:=by kernel_rfl
theorem Ky:mute Tryz.prog 27 (bf (Qq Tryz.prog wg t) (.tuple #[]))=true:=by kernel_rfl
theorem CI:fq Tryz.prog 30 1 (bf (Jw Tryz.prog wg t) (.tuple #[]))=true:=by kernel_rfl
end
end Go.Proofs.YtjklkppncmhehaaGreat.Sr
