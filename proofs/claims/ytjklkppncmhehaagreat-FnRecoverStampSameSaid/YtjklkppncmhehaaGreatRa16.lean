/-
What is proved: the starter's way through Add(+1): reckoned by the kernel: which steps are silent, which touch the group. No condition.
-/
import Derived.Test.YtjklkppncmhehaaGreatRa07
set_option linter.unusedVariables false
set_option linter.unusedSimpArgs false
namespace Go.Proofs.YtjklkppncmhehaaGreat.Sr
open Go Go.Conc
def QT (P:Program)(wg:Nat)(c:Frame)(cs:List Frame):Goroutine:={frame:=Frame.enter P 159 #[.pointer (some ⟨wg,0,none⟩),.int .i64 1] .normal,callers:=c::cs,status:= .running,dying:=none}
def VV (P:Program)(wg:Nat)(c:Frame)(cs:List Frame):Goroutine:=aE P 12 (QT P wg c cs)
def Tx (P:Program)(wg:Nat)(c:Frame)(cs:List Frame):Goroutine:=cQ P (VV P wg c cs)
def Hm (P:Program)(wg:Nat)(c:Frame)(cs:List Frame):Goroutine:=aE P 34 (Tx P wg c cs)
def nX (P:Program)(wg:Nat)(c:Frame)(cs:List Frame)(s:Int):Goroutine:=bf (Hm P wg c cs) (.int .u64 s)
def VW (P:Program)(wg:Nat)(c:Frame)(cs:List Frame):Goroutine:=aE P 52 (nX P wg c cs 4294967296)
def Ty (P:Program)(wg:Nat)(c:Frame)(cs:List Frame):Goroutine:=bf (VW P wg c cs) (.pointer (some ⟨wg,1,none⟩))
def Tz (P:Program)(wg:Nat)(c:Frame)(cs:List Frame):Goroutine:=cQ P (Ty P wg c cs)
def VX (P:Program)(wg:Nat)(c:Frame)(cs:List Frame):Goroutine:=aE P 39 (Tz P wg c cs)
def C' (P:Program)(wg:Nat)(c:Frame)(cs:List Frame)(s:Int):Goroutine:=aE P 87 (nX P wg c cs s)
def kh (c:Frame)(cs:List Frame):Goroutine:={frame:=c.finish (.tuple #[]),callers:=cs,status:= .running,dying:=none}
section
variable(wg:Nat)(c:Frame)(cs:List Frame)
set_option maxRecDepth 100000
theorem Le:mute Tryz.prog 12 (QT Tryz.prog wg c cs)=true:=by kernel_rfl
theorem N9:bM Tryz.prog (VV Tryz.prog wg c cs)=some (Tx Tryz.prog wg c cs,#[⟨.mark .disable,false,true⟩]):=by kernel_rfl
theorem Lf:mute Tryz.prog 34 (Tx Tryz.prog wg c cs)=true:=by kernel_rfl
theorem Lg:mute Tryz.prog 52 (nX Tryz.prog wg c cs 4294967296)=true:=by kernel_rfl
theorem QU:bM Tryz.prog (Ty Tryz.prog wg c cs)=some (Tz Tryz.prog wg c cs,#[⟨.mark (.read ⟨wg,1,none⟩),false,true⟩]):=by kernel_rfl
theorem Lh:mute Tryz.prog 39 (Tz Tryz.prog wg c cs)=true:=by kernel_rfl
theorem QV:∃g,bM Tryz.prog (VX Tryz.prog wg c cs)=some (g,#[⟨.mark .enable,false,true⟩])∧mute Tryz.prog 1 g=true∧aE Tryz.prog 1 g=kh c cs:=⟨cQ Tryz.prog (VX Tryz.prog wg c cs),by kernel_rfl,by kernel_rfl,by kernel_rfl⟩
theorem Da:mute Tryz.prog 87 (nX Tryz.prog wg c cs 8589934592)=true:=by kernel_rfl
theorem Li:∃g,bM Tryz.prog (C' Tryz.prog wg c cs 8589934592)=some (g,#[⟨.mark .enable,false,true⟩])∧mute Tryz.prog 1 g=true∧aE Tryz.prog 1 g=kh c cs:=⟨cQ Tryz.prog (C' Tryz.prog wg c cs 8589934592),by kernel_rfl,by kernel_rfl,by kernel_rfl⟩
theorem Db:mute Tryz.prog 87 (nX Tryz.prog wg c cs 12884901888)=true:=by kernel_rfl
theorem Lj:∃g,bM Tryz.prog (C' Tryz.prog wg c cs 12884901888)=some (g,#[⟨.mark .enable,false,true⟩])∧mute Tryz.prog 1 g=true∧aE Tryz.prog 1 g=kh c cs:=⟨cQ Tryz.prog (C' Tryz.prog wg c cs 12884901888),by kernel_rfl,by kernel_rfl,by kernel_rfl⟩
theorem Dc:mute Tryz.prog 87 (nX Tryz.prog wg c cs 17179869184)=true:=by kernel_rfl
theorem Lk:∃g,bM Tryz.prog (C' Tryz.prog wg c cs 17179869184)=some (g,#[⟨.mark .enable,false,true⟩])∧mute Tryz.prog 1 g=true∧aE Tryz.prog 1 g=kh c cs:=⟨cQ Tryz.prog (C' Tryz.prog wg c cs 17179869184),by kernel_rfl,by kernel_rfl,by kernel_rfl⟩
theorem Dd:mute Tryz.prog 87 (nX Tryz.prog wg c cs 21474836480)=true:=by kernel_rfl
theorem Ll:∃g,bM Tryz.prog (C' Tryz.prog wg c cs 21474836480)=some (g,#[⟨.mark .enable,false,true⟩])∧mute Tryz.prog 1 g=true∧aE Tryz.prog 1 g=kh c cs:=⟨cQ Tryz.prog (C' Tryz.prog wg c cs 21474836480),by kernel_rfl,by kernel_rfl,by kernel_rfl⟩
end
end Go.Proofs.YtjklkppncmhehaaGreat.Sr
