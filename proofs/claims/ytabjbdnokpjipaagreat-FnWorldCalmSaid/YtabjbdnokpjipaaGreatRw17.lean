/-
What is proved: the starter's way through Add(+1): reckoned by the kernel: which steps are silent, which touch the group. No condition.
-/
import Derived.Test.YtabjbdnokpjipaaGreatRw07
set_option linter.unusedVariables false
set_option linter.unusedSimpArgs false
namespace Go.Proofs.YtabjbdnokpjipaaGreat.Sr
open Go Go.Conc
def ad0 (P:Program)(wg:Nat)(c:Frame)(cs:List Frame):Goroutine:={frame:=Frame.enter P 151 #[.pointer (some ⟨wg,0,none⟩),.int .i64 1] .normal,callers:=c::cs,status:= .running,dying:=none}
def ad1 (P:Program)(wg:Nat)(c:Frame)(cs:List Frame):Goroutine:=aR P 12 (ad0 P wg c cs)
def ad2 (P:Program)(wg:Nat)(c:Frame)(cs:List Frame):Goroutine:=dA P (ad1 P wg c cs)
def OV (P:Program)(wg:Nat)(c:Frame)(cs:List Frame):Goroutine:=aR P 34 (ad2 P wg c cs)
def tk (P:Program)(wg:Nat)(c:Frame)(cs:List Frame)(s:Int):Goroutine:=bm (OV P wg c cs) (.int .u64 s)
def ad5 (P:Program)(wg:Nat)(c:Frame)(cs:List Frame):Goroutine:=aR P 52 (tk P wg c cs 4294967296)
def ad6 (P:Program)(wg:Nat)(c:Frame)(cs:List Frame):Goroutine:=bm (ad5 P wg c cs) (.pointer (some ⟨wg,1,none⟩))
def ad7 (P:Program)(wg:Nat)(c:Frame)(cs:List Frame):Goroutine:=dA P (ad6 P wg c cs)
def ad8 (P:Program)(wg:Nat)(c:Frame)(cs:List Frame):Goroutine:=aR P 39 (ad7 P wg c cs)
def Kb (P:Program)(wg:Nat)(c:Frame)(cs:List Frame)(s:Int):Goroutine:=aR P 87 (tk P wg c cs s)
def kM (c:Frame)(cs:List Frame):Goroutine:={frame:=c.finish (.tuple #[]),callers:=cs,status:= .running,dying:=none}
section
variable(wg:Nat)(c:Frame)(cs:List Frame)
set_option maxRecDepth 100000
theorem TE:mute Tryz.prog 12 (ad0 Tryz.prog wg c cs)=true:=by kernel_rfl
theorem Xc:cn Tryz.prog (ad1 Tryz.prog wg c cs)=some (ad2 Tryz.prog wg c cs,#[⟨.mark .disable,false,true⟩]):=by kernel_rfl
theorem TF:mute Tryz.prog 34 (ad2 Tryz.prog wg c cs)=true:=by kernel_rfl
theorem TG:mute Tryz.prog 52 (tk Tryz.prog wg c cs 4294967296)=true:=by kernel_rfl
theorem aam:cn Tryz.prog (ad6 Tryz.prog wg c cs)=some (ad7 Tryz.prog wg c cs,#[⟨.mark (.read ⟨wg,1,none⟩),false,true⟩]):=by kernel_rfl
theorem TH:mute Tryz.prog 39 (ad7 Tryz.prog wg c cs)=true:=by kernel_rfl
theorem aan:∃g,cn Tryz.prog (ad8 Tryz.prog wg c cs)=some (g,#[⟨.mark .enable,false,true⟩])∧mute Tryz.prog 1 g=true∧aR Tryz.prog 1 g=kM c cs:=⟨dA Tryz.prog (ad8 Tryz.prog wg c cs),by kernel_rfl,by kernel_rfl,by kernel_rfl⟩
theorem Kc:mute Tryz.prog 87 (tk Tryz.prog wg c cs 8589934592)=true:=by kernel_rfl
theorem TI:∃g,cn Tryz.prog (Kb Tryz.prog wg c cs 8589934592)=some (g,#[⟨.mark .enable,false,true⟩])∧mute Tryz.prog 1 g=true∧aR Tryz.prog 1 g=kM c cs:=⟨dA Tryz.prog (Kb Tryz.prog wg c cs 8589934592),by kernel_rfl,by kernel_rfl,by kernel_rfl⟩
theorem Kd:mute Tryz.prog 87 (tk Tryz.prog wg c cs 12884901888)=true:=by kernel_rfl
theorem TL:∃g,cn Tryz.prog (Kb Tryz.prog wg c cs 12884901888)=some (g,#[⟨.mark .enable,false,true⟩])∧mute Tryz.prog 1 g=true∧aR Tryz.prog 1 g=kM c cs:=⟨dA Tryz.prog (Kb Tryz.prog wg c cs 12884901888),by kernel_rfl,by kernel_rfl,by kernel_rfl⟩
theorem Ke:mute Tryz.prog 87 (tk Tryz.prog wg c cs 17179869184)=true:=by kernel_rfl
theorem TM:∃g,cn Tryz.prog (Kb Tryz.prog wg c cs 17179869184)=some (g,#[⟨.mark .enable,false,true⟩])∧mute Tryz.prog 1 g=true∧aR Tryz.prog 1 g=kM c cs:=⟨dA Tryz.prog (Kb Tryz.prog wg c cs 17179869184),by kernel_rfl,by kernel_rfl,by kernel_rfl⟩
theorem Kf:mute Tryz.prog 87 (tk Tryz.prog wg c cs 21474836480)=true:=by kernel_rfl
theorem TN:∃g,cn Tryz.prog (Kb Tryz.prog wg c cs 21474836480)=some (g,#[⟨.mark .enable,false,true⟩])∧mute Tryz.prog 1 g=true∧aR Tryz.prog 1 g=kM c cs:=⟨dA Tryz.prog (Kb Tryz.prog wg c cs 21474836480),by kernel_rfl,by kernel_rfl,by kernel_rfl⟩
end
end Go.Proofs.YtabjbdnokpjipaaGreat.Sr
