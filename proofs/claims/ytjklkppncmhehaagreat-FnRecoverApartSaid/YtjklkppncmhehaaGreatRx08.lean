/-
What is proved: the visible steps of the worker's Done, reckoned by the kernel. No condition.
-/
import Derived.Test.YtjklkppncmhehaaGreatRx06
import Derived.Test.YtjklkppncmhehaaGreatRx07
set_option linter.unusedVariables false
set_option linter.unusedSimpArgs false
namespace Go.Proofs.YtjklkppncmhehaaGreat.Sr
open Go Go.Conc
section
variable(wg:Nat)(t:Array Value)
set_option maxRecDepth 100000
abbrev bR (a:Addr):Event:=⟨.cell a,false,true⟩
abbrev ew (a:Addr):Event:=⟨.cell a,true,true⟩
abbrev dX (m:Mark):Event:=⟨.mark m,false,true⟩
theorem Oe:bn Tryz.prog undef (some (191,2)) (Yx Tryz.prog wg t)=some ⟨Ww Tryz.prog wg t,#[],[],[wg,wg],none⟩:=by kernel_rfl
theorem Dp:bn Tryz.prog (.int .u64 4294967296) none (xZ Tryz.prog wg t)=some ⟨mD Tryz.prog wg t 0,#[bR ⟨wg,0,none⟩,ew ⟨wg,0,none⟩],[⟨wg,0,none⟩,⟨wg,0,none⟩],[],some (⟨wg,0,none⟩,.int .u64 0)⟩:=by kernel_rfl
theorem Dq:bn Tryz.prog (.int .u64 4294967297) none (xZ Tryz.prog wg t)=some ⟨mD Tryz.prog wg t 1,#[bR ⟨wg,0,none⟩,ew ⟨wg,0,none⟩],[⟨wg,0,none⟩,⟨wg,0,none⟩],[],some (⟨wg,0,none⟩,.int .u64 1)⟩:=by kernel_rfl
theorem Dr:bn Tryz.prog (.int .u64 8589934592) none (xZ Tryz.prog wg t)=some ⟨mD Tryz.prog wg t 4294967296,#[bR ⟨wg,0,none⟩,ew ⟨wg,0,none⟩],[⟨wg,0,none⟩,⟨wg,0,none⟩],[],some (⟨wg,0,none⟩,.int .u64 4294967296)⟩:=by kernel_rfl
theorem Ds:bn Tryz.prog (.int .u64 8589934593) none (xZ Tryz.prog wg t)=some ⟨mD Tryz.prog wg t 4294967297,#[bR ⟨wg,0,none⟩,ew ⟨wg,0,none⟩],[⟨wg,0,none⟩,⟨wg,0,none⟩],[],some (⟨wg,0,none⟩,.int .u64 4294967297)⟩:=by kernel_rfl
theorem Dt:bn Tryz.prog (.int .u64 12884901888) none (xZ Tryz.prog wg t)=some ⟨mD Tryz.prog wg t 8589934592,#[bR ⟨wg,0,none⟩,ew ⟨wg,0,none⟩],[⟨wg,0,none⟩,⟨wg,0,none⟩],[],some (⟨wg,0,none⟩,.int .u64 8589934592)⟩:=by kernel_rfl
theorem Du:bn Tryz.prog (.int .u64 12884901889) none (xZ Tryz.prog wg t)=some ⟨mD Tryz.prog wg t 8589934593,#[bR ⟨wg,0,none⟩,ew ⟨wg,0,none⟩],[⟨wg,0,none⟩,⟨wg,0,none⟩],[],some (⟨wg,0,none⟩,.int .u64 8589934593)⟩:=by kernel_rfl
theorem Dv:bn Tryz.prog (.int .u64 17179869184) none (xZ Tryz.prog wg t)=some ⟨mD Tryz.prog wg t 12884901888,#[bR ⟨wg,0,none⟩,ew ⟨wg,0,none⟩],[⟨wg,0,none⟩,⟨wg,0,none⟩],[],some (⟨wg,0,none⟩,.int .u64 12884901888)⟩:=by kernel_rfl
theorem Dw:bn Tryz.prog (.int .u64 17179869185) none (xZ Tryz.prog wg t)=some ⟨mD Tryz.prog wg t 12884901889,#[bR ⟨wg,0,none⟩,ew ⟨wg,0,none⟩],[⟨wg,0,none⟩,⟨wg,0,none⟩],[],some (⟨wg,0,none⟩,.int .u64 12884901889)⟩:=by kernel_rfl
theorem Dx:bn Tryz.prog (.int .u64 21474836480) none (xZ Tryz.prog wg t)=some ⟨mD Tryz.prog wg t 17179869184,#[bR ⟨wg,0,none⟩,ew ⟨wg,0,none⟩],[⟨wg,0,none⟩,⟨wg,0,none⟩],[],some (⟨wg,0,none⟩,.int .u64 17179869184)⟩:=by kernel_rfl
theorem Dy:bn Tryz.prog (.int .u64 21474836481) none (xZ Tryz.prog wg t)=some ⟨mD Tryz.prog wg t 17179869185,#[bR ⟨wg,0,none⟩,ew ⟨wg,0,none⟩],[⟨wg,0,none⟩,⟨wg,0,none⟩],[],some (⟨wg,0,none⟩,.int .u64 17179869185)⟩:=by kernel_rfl
theorem Of:bn Tryz.prog (.int .u64 1) none (Uk Tryz.prog wg t)=some ⟨bu (Uk Tryz.prog wg t) (.int .u64 1),#[bR ⟨wg,0,none⟩],[⟨wg,0,none⟩],[],none⟩:=by kernel_rfl
theorem Kq:bn Tryz.prog (.int .u64 1) none (Ul Tryz.prog wg t)=some ⟨bu (Ul Tryz.prog wg t) (.tuple #[]),#[ew ⟨wg,0,none⟩],[⟨wg,0,none⟩],[],some (⟨wg,0,none⟩,.int .u64 0)⟩:=by kernel_rfl
theorem Og:bn Tryz.prog (.int .u32 0) none (MZ Tryz.prog wg t)=some ⟨bu (MZ Tryz.prog wg t) (.tuple #[]),#[dX .disable,bR ⟨wg,1,none⟩,ew ⟨wg,1,none⟩,dX .enable],[⟨wg,1,none⟩,⟨wg,1,none⟩],[],some (⟨wg,1,none⟩,.int .u32 1)⟩:=by kernel_rfl
theorem F9:mayWake Tryz.prog (MZ Tryz.prog wg t)=true:=by kernel_rfl
end
end Go.Proofs.YtjklkppncmhehaaGreat.Sr
