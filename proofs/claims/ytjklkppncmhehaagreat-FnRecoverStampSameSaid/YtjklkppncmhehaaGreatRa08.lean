/-
What is proved: the visible steps of the worker's Done, reckoned by the kernel. No condition.
-/
import Derived.Test.YtjklkppncmhehaaGreatRa06
import Derived.Test.YtjklkppncmhehaaGreatRa07
set_option linter.unusedVariables false
set_option linter.unusedSimpArgs false
namespace Go.Proofs.YtjklkppncmhehaaGreat.Sr
open Go Go.Conc
section
variable(wg:Nat)(t:Array Value)
set_option maxRecDepth 100000
abbrev bE (a:Addr):Event:=⟨.cell a,false,true⟩
abbrev dr (a:Addr):Event:=⟨.cell a,true,true⟩
abbrev dj (m:Mark):Event:=⟨.mark m,false,true⟩
theorem Kz:aZ Tryz.prog undef (some (191,2)) (Ve Tryz.prog wg t)=some ⟨SW Tryz.prog wg t,#[],[],[wg,wg],none⟩:=by kernel_rfl
theorem zW:aZ Tryz.prog (.int .u64 4294967296) none (uG Tryz.prog wg t)=some ⟨kE Tryz.prog wg t 0,#[bE ⟨wg,0,none⟩,dr ⟨wg,0,none⟩],[⟨wg,0,none⟩,⟨wg,0,none⟩],[],some (⟨wg,0,none⟩,.int .u64 0)⟩:=by kernel_rfl
theorem zX:aZ Tryz.prog (.int .u64 4294967297) none (uG Tryz.prog wg t)=some ⟨kE Tryz.prog wg t 1,#[bE ⟨wg,0,none⟩,dr ⟨wg,0,none⟩],[⟨wg,0,none⟩,⟨wg,0,none⟩],[],some (⟨wg,0,none⟩,.int .u64 1)⟩:=by kernel_rfl
theorem zY:aZ Tryz.prog (.int .u64 8589934592) none (uG Tryz.prog wg t)=some ⟨kE Tryz.prog wg t 4294967296,#[bE ⟨wg,0,none⟩,dr ⟨wg,0,none⟩],[⟨wg,0,none⟩,⟨wg,0,none⟩],[],some (⟨wg,0,none⟩,.int .u64 4294967296)⟩:=by kernel_rfl
theorem zZ:aZ Tryz.prog (.int .u64 8589934593) none (uG Tryz.prog wg t)=some ⟨kE Tryz.prog wg t 4294967297,#[bE ⟨wg,0,none⟩,dr ⟨wg,0,none⟩],[⟨wg,0,none⟩,⟨wg,0,none⟩],[],some (⟨wg,0,none⟩,.int .u64 4294967297)⟩:=by kernel_rfl
theorem z_:aZ Tryz.prog (.int .u64 12884901888) none (uG Tryz.prog wg t)=some ⟨kE Tryz.prog wg t 8589934592,#[bE ⟨wg,0,none⟩,dr ⟨wg,0,none⟩],[⟨wg,0,none⟩,⟨wg,0,none⟩],[],some (⟨wg,0,none⟩,.int .u64 8589934592)⟩:=by kernel_rfl
theorem Aa:aZ Tryz.prog (.int .u64 12884901889) none (uG Tryz.prog wg t)=some ⟨kE Tryz.prog wg t 8589934593,#[bE ⟨wg,0,none⟩,dr ⟨wg,0,none⟩],[⟨wg,0,none⟩,⟨wg,0,none⟩],[],some (⟨wg,0,none⟩,.int .u64 8589934593)⟩:=by kernel_rfl
theorem Ab:aZ Tryz.prog (.int .u64 17179869184) none (uG Tryz.prog wg t)=some ⟨kE Tryz.prog wg t 12884901888,#[bE ⟨wg,0,none⟩,dr ⟨wg,0,none⟩],[⟨wg,0,none⟩,⟨wg,0,none⟩],[],some (⟨wg,0,none⟩,.int .u64 12884901888)⟩:=by kernel_rfl
theorem Ac:aZ Tryz.prog (.int .u64 17179869185) none (uG Tryz.prog wg t)=some ⟨kE Tryz.prog wg t 12884901889,#[bE ⟨wg,0,none⟩,dr ⟨wg,0,none⟩],[⟨wg,0,none⟩,⟨wg,0,none⟩],[],some (⟨wg,0,none⟩,.int .u64 12884901889)⟩:=by kernel_rfl
theorem Ad:aZ Tryz.prog (.int .u64 21474836480) none (uG Tryz.prog wg t)=some ⟨kE Tryz.prog wg t 17179869184,#[bE ⟨wg,0,none⟩,dr ⟨wg,0,none⟩],[⟨wg,0,none⟩,⟨wg,0,none⟩],[],some (⟨wg,0,none⟩,.int .u64 17179869184)⟩:=by kernel_rfl
theorem Ae:aZ Tryz.prog (.int .u64 21474836481) none (uG Tryz.prog wg t)=some ⟨kE Tryz.prog wg t 17179869185,#[bE ⟨wg,0,none⟩,dr ⟨wg,0,none⟩],[⟨wg,0,none⟩,⟨wg,0,none⟩],[],some (⟨wg,0,none⟩,.int .u64 17179869185)⟩:=by kernel_rfl
theorem KA:aZ Tryz.prog (.int .u64 1) none (Qp Tryz.prog wg t)=some ⟨bf (Qp Tryz.prog wg t) (.int .u64 1),#[bE ⟨wg,0,none⟩],[⟨wg,0,none⟩],[],none⟩:=by kernel_rfl
theorem G3:aZ Tryz.prog (.int .u64 1) none (Qq Tryz.prog wg t)=some ⟨bf (Qq Tryz.prog wg t) (.tuple #[]),#[dr ⟨wg,0,none⟩],[⟨wg,0,none⟩],[],some (⟨wg,0,none⟩,.int .u64 0)⟩:=by kernel_rfl
theorem KB:aZ Tryz.prog (.int .u32 0) none (Jw Tryz.prog wg t)=some ⟨bf (Jw Tryz.prog wg t) (.tuple #[]),#[dj .disable,bE ⟨wg,1,none⟩,dr ⟨wg,1,none⟩,dj .enable],[⟨wg,1,none⟩,⟨wg,1,none⟩],[],some (⟨wg,1,none⟩,.int .u32 1)⟩:=by kernel_rfl
theorem CJ:mayWake Tryz.prog (Jw Tryz.prog wg t)=true:=by kernel_rfl
end
end Go.Proofs.YtjklkppncmhehaaGreat.Sr
