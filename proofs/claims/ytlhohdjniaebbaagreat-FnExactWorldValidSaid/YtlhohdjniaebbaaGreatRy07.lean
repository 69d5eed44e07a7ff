/-
What is proved: the worker's way from its last store on: the deferred Done, reckoned by the kernel: which steps are silent, which touch the group. No condition.
-/
import Derived.Test.YtlhohdjniaebbaaGreatRy06
import Derived.KernelRfl
set_option linter.unusedVariables false
set_option linter.unusedSimpArgs false
namespace Go.Proofs.YtlhohdjniaebbaaGreat.Sr
open Go Go.Conc
def wH (P:Program):Frame:={(default:Frame)with fn:=P.funcs.size,defers:=[],mode:= .panicking [goexitEntry]}
def V6 (P:Program)(wg:Nat)(t:Array Value):Goroutine:=
 {frame:={fn:=211,tmps:=t,todo:=[],defers:=[{target:= .fn (.func 212) #[],args:= #[.pointer (some ⟨wg,0,none⟩)]}],mode:= .run,kind:= .deferred},
  callers:=[wH P],status:= .running,dying:=none}
def wk1 (P:Program)(wg:Nat)(t:Array Value):Goroutine:=aL P 16 (V6 P wg t)
def YT (P:Program)(wg:Nat)(t:Array Value):Goroutine:=aZ (wk1 P wg t) (.pointer (some ⟨wg,0,none⟩))
def cR (P:Program)(g:Goroutine):Goroutine:=match bU P g with|some (g',_)=>g'|none=>g
def YU (P:Program)(wg:Nat)(t:Array Value):Goroutine:=cR P (YT P wg t)
def wk4 (P:Program)(wg:Nat)(t:Array Value):Goroutine:=aL P 3 (YU P wg t)
def YV (P:Program)(wg:Nat)(t:Array Value):Goroutine:=cR P (wk4 P wg t)
def xB (P:Program)(wg:Nat)(t:Array Value):Goroutine:=aL P 34 (YV P wg t)
def lJ (P:Program)(wg:Nat)(t:Array Value)(s:Int):Goroutine:=aZ (xB P wg t) (.int .u64 s)
def V7 (P:Program)(wg:Nat)(t:Array Value):Goroutine:=aL P 103 (lJ P wg t 1)
def V8 (P:Program)(wg:Nat)(t:Array Value):Goroutine:=aL P 20 (aZ (V7 P wg t) (.int .u64 1))
def NP (P:Program)(wg:Nat)(t:Array Value):Goroutine:=aL P 27 (aZ (V8 P wg t) (.tuple #[]))
section
variable(wg:Nat)(t:Array Value)
set_option maxRecDepth 100000
theorem OV:mute Tryz.prog 16 (V6 Tryz.prog wg t)=true:=by kernel_rfl
theorem Ss:bU Tryz.prog (YT Tryz.prog wg t)=some (YU Tryz.prog wg t,#[⟨.mark (.releaseMerge ⟨wg,0,none⟩),false,true⟩]):=by kernel_rfl
theorem OW:mute Tryz.prog 3 (YU Tryz.prog wg t)=true:=by kernel_rfl
theorem Su:bU Tryz.prog (wk4 Tryz.prog wg t)=some (YV Tryz.prog wg t,#[⟨.mark .disable,false,true⟩]):=by kernel_rfl
theorem OX:mute Tryz.prog 34 (YV Tryz.prog wg t)=true:=by kernel_rfl
theorem yz:quits Tryz.prog 110 1 (lJ Tryz.prog wg t 0)=true:=by kernel_rfl
theorem yA:quits Tryz.prog 110 1 (lJ Tryz.prog wg t 4294967296)=true:=by kernel_rfl
theorem yB:quits Tryz.prog 110 1 (lJ Tryz.prog wg t 4294967297)=true:=by kernel_rfl
theorem yC:quits Tryz.prog 110 1 (lJ Tryz.prog wg t 8589934592)=true:=by kernel_rfl
theorem yD:quits Tryz.prog 110 1 (lJ Tryz.prog wg t 8589934593)=true:=by kernel_rfl
theorem yE:quits Tryz.prog 110 1 (lJ Tryz.prog wg t 12884901888)=true:=by kernel_rfl
theorem yF:quits Tryz.prog 110 1 (lJ Tryz.prog wg t 12884901889)=true:=by kernel_rfl
theorem yG:quits Tryz.prog 110 1 (lJ Tryz.prog wg t 17179869184)=true:=by kernel_rfl
theorem yH:quits Tryz.prog 110 1 (lJ Tryz.prog wg t 17179869185)=true:=by kernel_rfl
theorem OY:mute Tryz.prog 103 (lJ Tryz.prog wg t 1)=true:=by kernel_rfl
theorem OZ:mute Tryz.prog 20 (aZ (V7 Tryz.prog wg t) (.int .u64 1))=true:=by kernel_rfl
theorem O0:mute Tryz.prog 27 (aZ (V8 Tryz.prog wg t) (.tuple #[]))=true:=by kernel_rfl
theorem FH:quits Tryz.prog 30 1 (aZ (NP Tryz.prog wg t) (.tuple #[]))=true:=by kernel_rfl
end
end Go.Proofs.YtlhohdjniaebbaaGreat.Sr
