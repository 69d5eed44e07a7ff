/-
What is proved: the visible steps of the worker's Done, reckoned by the kernel. No condition.
-/
import Derived.Test.YtlhohdjniaebbaaGreatRy06
import Derived.Test.YtlhohdjniaebbaaGreatRy07
set_option linter.unusedVariables false
set_option linter.unusedSimpArgs false
namespace Go.Proofs.YtlhohdjniaebbaaGreat.Sr
open Go Go.Conc
section
variable(wg:Nat)(t:Array Value)
set_option maxRecDepth 100000
abbrev bV (a:Addr):Event:=⟨.cell a,false,true⟩
abbrev dS (a:Addr):Event:=⟨.cell a,true,true⟩
abbrev dL (m:Mark):Event:=⟨.mark m,false,true⟩
theorem O7:bn Tryz.prog undef (some (231,2)) (wk1 Tryz.prog wg t)=some ⟨YT Tryz.prog wg t,#[],[],[wg,wg],none⟩:=by kernel_rfl
theorem C4:bn Tryz.prog (.int .u64 4294967296) none (xB Tryz.prog wg t)=some ⟨lJ Tryz.prog wg t 0,#[bV ⟨wg,0,none⟩,dS ⟨wg,0,none⟩],[⟨wg,0,none⟩,⟨wg,0,none⟩],[],some (⟨wg,0,none⟩,.int .u64 0)⟩:=by kernel_rfl
theorem C5:bn Tryz.prog (.int .u64 4294967297) none (xB Tryz.prog wg t)=some ⟨lJ Tryz.prog wg t 1,#[bV ⟨wg,0,none⟩,dS ⟨wg,0,none⟩],[⟨wg,0,none⟩,⟨wg,0,none⟩],[],some (⟨wg,0,none⟩,.int .u64 1)⟩:=by kernel_rfl
theorem C6:bn Tryz.prog (.int .u64 8589934592) none (xB Tryz.prog wg t)=some ⟨lJ Tryz.prog wg t 4294967296,#[bV ⟨wg,0,none⟩,dS ⟨wg,0,none⟩],[⟨wg,0,none⟩,⟨wg,0,none⟩],[],some (⟨wg,0,none⟩,.int .u64 4294967296)⟩:=by kernel_rfl
theorem C7:bn Tryz.prog (.int .u64 8589934593) none (xB Tryz.prog wg t)=some ⟨lJ Tryz.prog wg t 4294967297,#[bV ⟨wg,0,none⟩,dS ⟨wg,0,none⟩],[⟨wg,0,none⟩,⟨wg,0,none⟩],[],some (⟨wg,0,none⟩,.int .u64 4294967297)⟩:=by kernel_rfl
theorem C8:bn Tryz.prog (.int .u64 12884901888) none (xB Tryz.prog wg t)=some ⟨lJ Tryz.prog wg t 8589934592,#[bV ⟨wg,0,none⟩,dS ⟨wg,0,none⟩],[⟨wg,0,none⟩,⟨wg,0,none⟩],[],some (⟨wg,0,none⟩,.int .u64 8589934592)⟩:=by kernel_rfl
theorem C9:bn Tryz.prog (.int .u64 12884901889) none (xB Tryz.prog wg t)=some ⟨lJ Tryz.prog wg t 8589934593,#[bV ⟨wg,0,none⟩,dS ⟨wg,0,none⟩],[⟨wg,0,none⟩,⟨wg,0,none⟩],[],some (⟨wg,0,none⟩,.int .u64 8589934593)⟩:=by kernel_rfl
theorem C_:bn Tryz.prog (.int .u64 17179869184) none (xB Tryz.prog wg t)=some ⟨lJ Tryz.prog wg t 12884901888,#[bV ⟨wg,0,none⟩,dS ⟨wg,0,none⟩],[⟨wg,0,none⟩,⟨wg,0,none⟩],[],some (⟨wg,0,none⟩,.int .u64 12884901888)⟩:=by kernel_rfl
theorem C':bn Tryz.prog (.int .u64 17179869185) none (xB Tryz.prog wg t)=some ⟨lJ Tryz.prog wg t 12884901889,#[bV ⟨wg,0,none⟩,dS ⟨wg,0,none⟩],[⟨wg,0,none⟩,⟨wg,0,none⟩],[],some (⟨wg,0,none⟩,.int .u64 12884901889)⟩:=by kernel_rfl
theorem Da:bn Tryz.prog (.int .u64 21474836480) none (xB Tryz.prog wg t)=some ⟨lJ Tryz.prog wg t 17179869184,#[bV ⟨wg,0,none⟩,dS ⟨wg,0,none⟩],[⟨wg,0,none⟩,⟨wg,0,none⟩],[],some (⟨wg,0,none⟩,.int .u64 17179869184)⟩:=by kernel_rfl
theorem Db:bn Tryz.prog (.int .u64 21474836481) none (xB Tryz.prog wg t)=some ⟨lJ Tryz.prog wg t 17179869185,#[bV ⟨wg,0,none⟩,dS ⟨wg,0,none⟩],[⟨wg,0,none⟩,⟨wg,0,none⟩],[],some (⟨wg,0,none⟩,.int .u64 17179869185)⟩:=by kernel_rfl
theorem O_:bn Tryz.prog (.int .u64 1) none (V7 Tryz.prog wg t)=some ⟨aZ (V7 Tryz.prog wg t) (.int .u64 1),#[bV ⟨wg,0,none⟩],[⟨wg,0,none⟩],[],none⟩:=by kernel_rfl
theorem KF:bn Tryz.prog (.int .u64 1) none (V8 Tryz.prog wg t)=some ⟨aZ (V8 Tryz.prog wg t) (.tuple #[]),#[dS ⟨wg,0,none⟩],[⟨wg,0,none⟩],[],some (⟨wg,0,none⟩,.int .u64 0)⟩:=by kernel_rfl
theorem Pa:bn Tryz.prog (.int .u32 0) none (NP Tryz.prog wg t)=some ⟨aZ (NP Tryz.prog wg t) (.tuple #[]),#[dL .disable,bV ⟨wg,1,none⟩,dS ⟨wg,1,none⟩,dL .enable],[⟨wg,1,none⟩,⟨wg,1,none⟩],[],some (⟨wg,1,none⟩,.int .u32 1)⟩:=by kernel_rfl
theorem FI:mayWake Tryz.prog (NP Tryz.prog wg t)=true:=by kernel_rfl
end
end Go.Proofs.YtlhohdjniaebbaaGreat.Sr
