/-
What is proved: the starter's way through Add(+1): reckoned by the kernel: which steps are silent, which touch the group. No condition.
-/
import Derived.Test.YtjklkppncmhehaaGreatRx07
set_option linter.unusedVariables false
set_option linter.unusedSimpArgs false
namespace Go.Proofs.YtjklkppncmhehaaGreat.Sr
open Go Go.Conc
def UL (P:Program)(wg:Nat)(c:Frame)(cs:List Frame):Goroutine:={frame:=Frame.enter P 159 #[.pointer (some ⟨wg,0,none⟩),.int .i64 1] .normal,callers:=c::cs,status:= .running,dying:=none}
def Y7 (P:Program)(wg:Nat)(c:Frame)(cs:List Frame):Goroutine:=aN P 12 (UL P wg c cs)
def W2 (P:Program)(wg:Nat)(c:Frame)(cs:List Frame):Goroutine:=dB P (Y7 P wg c cs)
def KN (P:Program)(wg:Nat)(c:Frame)(cs:List Frame):Goroutine:=aN P 34 (W2 P wg c cs)
def qq (P:Program)(wg:Nat)(c:Frame)(cs:List Frame)(s:Int):Goroutine:=bu (KN P wg c cs) (.int .u64 s)
def Y8 (P:Program)(wg:Nat)(c:Frame)(cs:List Frame):Goroutine:=aN P 52 (qq P wg c cs 4294967296)
def W3 (P:Program)(wg:Nat)(c:Frame)(cs:List Frame):Goroutine:=bu (Y8 P wg c cs) (.pointer (some ⟨wg,1,none⟩))
def W4 (P:Program)(wg:Nat)(c:Frame)(cs:List Frame):Goroutine:=dB P (W3 P wg c cs)
def Y9 (P:Program)(wg:Nat)(c:Frame)(cs:List Frame):Goroutine:=aN P 39 (W4 P wg c cs)
def GA (P:Program)(wg:Nat)(c:Frame)(cs:List Frame)(s:Int):Goroutine:=aN P 87 (qq P wg c cs s)
def lZ (c:Frame)(cs:List Frame):Goroutine:={frame:=c.finish (.tuple #[]),callers:=cs,status:= .running,dying:=none}
section
variable(wg:Nat)(c:Frame)(cs:List Frame)
set_option maxRecDepth 100000
theorem OS:mute Tryz.prog 12 (UL Tryz.prog wg c cs)=true:=by kernel_rfl
theorem RP:bX Tryz.prog (Y7 Tryz.prog wg c cs)=some (W2 Tryz.prog wg c cs,#[⟨.mark .disable,false,true⟩]):=by kernel_rfl
theorem OT:mute Tryz.prog 34 (W2 Tryz.prog wg c cs)=true:=by kernel_rfl
theorem OU:mute Tryz.prog 52 (qq Tryz.prog wg c cs 4294967296)=true:=by kernel_rfl
theorem UM:bX Tryz.prog (W3 Tryz.prog wg c cs)=some (W4 Tryz.prog wg c cs,#[⟨.mark (.read ⟨wg,1,none⟩),false,true⟩]):=by kernel_rfl
theorem OV:mute Tryz.prog 39 (W4 Tryz.prog wg c cs)=true:=by kernel_rfl
theorem UN:∃g,bX Tryz.prog (Y9 Tryz.prog wg c cs)=some (g,#[⟨.mark .enable,false,true⟩])∧mute Tryz.prog 1 g=true∧aN Tryz.prog 1 g=lZ c cs:=⟨dB Tryz.prog (Y9 Tryz.prog wg c cs),by kernel_rfl,by kernel_rfl,by kernel_rfl⟩
theorem GB:mute Tryz.prog 87 (qq Tryz.prog wg c cs 8589934592)=true:=by kernel_rfl
theorem OW:∃g,bX Tryz.prog (GA Tryz.prog wg c cs 8589934592)=some (g,#[⟨.mark .enable,false,true⟩])∧mute Tryz.prog 1 g=true∧aN Tryz.prog 1 g=lZ c cs:=⟨dB Tryz.prog (GA Tryz.prog wg c cs 8589934592),by kernel_rfl,by kernel_rfl,by kernel_rfl⟩
theorem GC:mute Tryz.prog 87 (qq Tryz.prog wg c cs 12884901888)=true:=by kernel_rfl
theorem OX:∃g,bX Tryz.prog (GA Tryz.prog wg c cs 12884901888)=some (g,#[⟨.mark .enable,false,true⟩])∧mute Tryz.prog 1 g=true∧aN Tryz.prog 1 g=lZ c cs:=⟨dB Tryz.prog (GA Tryz.prog wg c cs 12884901888),by kernel_rfl,by kernel_rfl,by kernel_rfl⟩
theorem GD:mute Tryz.prog 87 (qq Tryz.prog wg c cs 17179869184)=true:=by kernel_rfl
theorem OY:∃g,bX Tryz.prog (GA Tryz.prog wg c cs 17179869184)=some (g,#[⟨.mark .enable,false,true⟩])∧mute Tryz.prog 1 g=true∧aN Tryz.prog 1 g=lZ c cs:=⟨dB Tryz.prog (GA Tryz.prog wg c cs 17179869184),by kernel_rfl,by kernel_rfl,by kernel_rfl⟩
theorem GG:mute Tryz.prog 87 (qq Tryz.prog wg c cs 21474836480)=true:=by kernel_rfl
theorem OZ:∃g,bX Tryz.prog (GA Tryz.prog wg c cs 21474836480)=some (g,#[⟨.mark .enable,false,true⟩])∧mute Tryz.prog 1 g=true∧aN Tryz.prog 1 g=lZ c cs:=⟨dB Tryz.prog (GA Tryz.prog wg c cs 21474836480),by kernel_rfl,by kernel_rfl,by kernel_rfl⟩
end
end Go.Proofs.YtjklkppncmhehaaGreat.Sr
