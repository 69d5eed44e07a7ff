/-
What is proved: the starter's way through Add(+1): reckoned by the kernel: which steps are silent, which touch the group. No condition.
-/
import Derived.Test.YtlhohdjniaebbaaGreatRy07
set_option linter.unusedVariables false
set_option linter.unusedSimpArgs false
namespace Go.Proofs.YtlhohdjniaebbaaGreat.Sr
open Go Go.Conc
def Wz (P:Program)(wg:Nat)(c:Frame)(cs:List Frame):Goroutine:={frame:=Frame.enter P 210 #[.pointer (some ⟨wg,0,none⟩),.int .i64 1] .normal,callers:=c::cs,status:= .running,dying:=none}
def ad1 (P:Program)(wg:Nat)(c:Frame)(cs:List Frame):Goroutine:=aL P 12 (Wz P wg c cs)
def Zj (P:Program)(wg:Nat)(c:Frame)(cs:List Frame):Goroutine:=cR P (ad1 P wg c cs)
def K4 (P:Program)(wg:Nat)(c:Frame)(cs:List Frame):Goroutine:=aL P 34 (Zj P wg c cs)
def pE (P:Program)(wg:Nat)(c:Frame)(cs:List Frame)(s:Int):Goroutine:=aZ (K4 P wg c cs) (.int .u64 s)
def ad5 (P:Program)(wg:Nat)(c:Frame)(cs:List Frame):Goroutine:=aL P 52 (pE P wg c cs 4294967296)
def Zk (P:Program)(wg:Nat)(c:Frame)(cs:List Frame):Goroutine:=aZ (ad5 P wg c cs) (.pointer (some ⟨wg,1,none⟩))
def Zl (P:Program)(wg:Nat)(c:Frame)(cs:List Frame):Goroutine:=cR P (Zk P wg c cs)
def ad8 (P:Program)(wg:Nat)(c:Frame)(cs:List Frame):Goroutine:=aL P 39 (Zl P wg c cs)
def Gf (P:Program)(wg:Nat)(c:Frame)(cs:List Frame)(s:Int):Goroutine:=aL P 87 (pE P wg c cs s)
def iY (c:Frame)(cs:List Frame):Goroutine:={frame:=c.finish (.tuple #[]),callers:=cs,status:= .running,dying:=none}
section
variable(wg:Nat)(c:Frame)(cs:List Frame)
set_option maxRecDepth 100000
theorem PN:mute Tryz.prog 12 (Wz Tryz.prog wg c cs)=true:=by kernel_rfl
theorem Tk:bU Tryz.prog (ad1 Tryz.prog wg c cs)=some (Zj Tryz.prog wg c cs,#[⟨.mark .disable,false,true⟩]):=by kernel_rfl
theorem PO:mute Tryz.prog 34 (Zj Tryz.prog wg c cs)=true:=by kernel_rfl
theorem PQ:mute Tryz.prog 52 (pE Tryz.prog wg c cs 4294967296)=true:=by kernel_rfl
theorem WA:bU Tryz.prog (Zk Tryz.prog wg c cs)=some (Zl Tryz.prog wg c cs,#[⟨.mark (.read ⟨wg,1,none⟩),false,true⟩]):=by kernel_rfl
theorem PR:mute Tryz.prog 39 (Zl Tryz.prog wg c cs)=true:=by kernel_rfl
theorem WB:∃g,bU Tryz.prog (ad8 Tryz.prog wg c cs)=some (g,#[⟨.mark .enable,false,true⟩])∧mute Tryz.prog 1 g=true∧aL Tryz.prog 1 g=iY c cs:=⟨cR Tryz.prog (ad8 Tryz.prog wg c cs),by kernel_rfl,by kernel_rfl,by kernel_rfl⟩
theorem Gg:mute Tryz.prog 87 (pE Tryz.prog wg c cs 8589934592)=true:=by kernel_rfl
theorem PS:∃g,bU Tryz.prog (Gf Tryz.prog wg c cs 8589934592)=some (g,#[⟨.mark .enable,false,true⟩])∧mute Tryz.prog 1 g=true∧aL Tryz.prog 1 g=iY c cs:=⟨cR Tryz.prog (Gf Tryz.prog wg c cs 8589934592),by kernel_rfl,by kernel_rfl,by kernel_rfl⟩
theorem Gi:mute Tryz.prog 87 (pE Tryz.prog wg c cs 12884901888)=true:=by kernel_rfl
theorem PT:∃g,bU Tryz.prog (Gf Tryz.prog wg c cs 12884901888)=some (g,#[⟨.mark .enable,false,true⟩])∧mute Tryz.prog 1 g=true∧aL Tryz.prog 1 g=iY c cs:=⟨cR Tryz.prog (Gf Tryz.prog wg c cs 12884901888),by kernel_rfl,by kernel_rfl,by kernel_rfl⟩
theorem Gj:mute Tryz.prog 87 (pE Tryz.prog wg c cs 17179869184)=true:=by kernel_rfl
theorem PU:∃g,bU Tryz.prog (Gf Tryz.prog wg c cs 17179869184)=some (g,#[⟨.mark .enable,false,true⟩])∧mute Tryz.prog 1 g=true∧aL Tryz.prog 1 g=iY c cs:=⟨cR Tryz.prog (Gf Tryz.prog wg c cs 17179869184),by kernel_rfl,by kernel_rfl,by kernel_rfl⟩
theorem Gk:mute Tryz.prog 87 (pE Tryz.prog wg c cs 21474836480)=true:=by kernel_rfl
theorem PV:∃g,bU Tryz.prog (Gf Tryz.prog wg c cs 21474836480)=some (g,#[⟨.mark .enable,false,true⟩])∧mute Tryz.prog 1 g=true∧aL Tryz.prog 1 g=iY c cs:=⟨cR Tryz.prog (Gf Tryz.prog wg c cs 21474836480),by kernel_rfl,by kernel_rfl,by kernel_rfl⟩
end
end Go.Proofs.YtlhohdjniaebbaaGreat.Sr
