/-
What is proved: the worker's way from its last store on: the deferred Done, reckoned by the kernel: which steps are silent, which touch the group. No condition.
-/
import Derived.Test.YtabjbdnokpjipaaGreatRw06
import Derived.KernelRfl
set_option linter.unusedVariables false
set_option linter.unusedSimpArgs false
namespace Go.Proofs.YtabjbdnokpjipaaGreat.Sr
open Go Go.Conc
def Ac (P:Program):Frame:={(default:Frame)with fn:=P.funcs.size,defers:=[],mode:= .panicking [goexitEntry]}
def ZZ (P:Program)(wg:Nat)(t:Array Value):Goroutine:=
 {frame:={fn:=152,tmps:=t,todo:=[],defers:=[{target:= .fn (.func 153) #[],args:= #[.pointer (some ⟨wg,0,none⟩)]}],mode:= .run,kind:= .deferred},
  callers:=[Ac P],status:= .running,dying:=none}
def wk1 (P:Program)(wg:Nat)(t:Array Value):Goroutine:=aR P 16 (ZZ P wg t)
def wk2 (P:Program)(wg:Nat)(t:Array Value):Goroutine:=bm (wk1 P wg t) (.pointer (some ⟨wg,0,none⟩))
def dA (P:Program)(g:Goroutine):Goroutine:=match cn P g with|some (g',_)=>g'|none=>g
def wk3 (P:Program)(wg:Nat)(t:Array Value):Goroutine:=dA P (wk2 P wg t)
def wk4 (P:Program)(wg:Nat)(t:Array Value):Goroutine:=aR P 3 (wk3 P wg t)
def wk5 (P:Program)(wg:Nat)(t:Array Value):Goroutine:=dA P (wk4 P wg t)
def AZ (P:Program)(wg:Nat)(t:Array Value):Goroutine:=aR P 34 (wk5 P wg t)
def om (P:Program)(wg:Nat)(t:Array Value)(s:Int):Goroutine:=bm (AZ P wg t) (.int .u64 s)
def Z0 (P:Program)(wg:Nat)(t:Array Value):Goroutine:=aR P 103 (om P wg t 1)
def Z1 (P:Program)(wg:Nat)(t:Array Value):Goroutine:=aR P 20 (bm (Z0 P wg t) (.int .u64 1))
def Rq (P:Program)(wg:Nat)(t:Array Value):Goroutine:=aR P 27 (bm (Z1 P wg t) (.tuple #[]))
section
variable(wg:Nat)(t:Array Value)
set_option maxRecDepth 100000
theorem SN:mute Tryz.prog 16 (ZZ Tryz.prog wg t)=true:=by kernel_rfl
theorem Wr:cn Tryz.prog (wk2 Tryz.prog wg t)=some (wk3 Tryz.prog wg t,#[⟨.mark (.releaseMerge ⟨wg,0,none⟩),false,true⟩]):=by kernel_rfl
theorem SO:mute Tryz.prog 3 (wk3 Tryz.prog wg t)=true:=by kernel_rfl
theorem Ws:cn Tryz.prog (wk4 Tryz.prog wg t)=some (wk5 Tryz.prog wg t,#[⟨.mark .disable,false,true⟩]):=by kernel_rfl
theorem SP:mute Tryz.prog 34 (wk5 Tryz.prog wg t)=true:=by kernel_rfl
theorem Cd:quits Tryz.prog 110 1 (om Tryz.prog wg t 0)=true:=by kernel_rfl
theorem Ce:quits Tryz.prog 110 1 (om Tryz.prog wg t 4294967296)=true:=by kernel_rfl
theorem Cf:quits Tryz.prog 110 1 (om Tryz.prog wg t 4294967297)=true:=by kernel_rfl
theorem Cg:quits Tryz.prog 110 1 (om Tryz.prog wg t 8589934592)=true:=by kernel_rfl
theorem Ch:quits Tryz.prog 110 1 (om Tryz.prog wg t 8589934593)=true:=by kernel_rfl
theorem Ci:quits Tryz.prog 110 1 (om Tryz.prog wg t 12884901888)=true:=by kernel_rfl
theorem Cj:quits Tryz.prog 110 1 (om Tryz.prog wg t 12884901889)=true:=by kernel_rfl
theorem Ck:quits Tryz.prog 110 1 (om Tryz.prog wg t 17179869184)=true:=by kernel_rfl
theorem Cl:quits Tryz.prog 110 1 (om Tryz.prog wg t 17179869185)=true:=by kernel_rfl
theorem SQ:mute Tryz.prog 103 (om Tryz.prog wg t 1)=true:=by kernel_rfl
theorem SS:mute Tryz.prog 20 (bm (Z0 Tryz.prog wg t) (.int .u64 1))=true:=by kernel_rfl
theorem SU:mute Tryz.prog 27 (bm (Z1 Tryz.prog wg t) (.tuple #[]))=true:=by kernel_rfl
theorem JB:quits Tryz.prog 30 1 (bm (Rq Tryz.prog wg t) (.tuple #[]))=true:=by kernel_rfl
end
end Go.Proofs.YtabjbdnokpjipaaGreat.Sr
