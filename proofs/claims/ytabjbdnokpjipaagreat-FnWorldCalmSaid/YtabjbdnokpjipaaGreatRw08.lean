/-
What is proved: the visible steps of the worker's Done, reckoned by the kernel. No condition.
-/
import Derived.Test.YtabjbdnokpjipaaGreatRw06
import Derived.Test.YtabjbdnokpjipaaGreatRw07
set_option linter.unusedVariables false
set_option linter.unusedSimpArgs false
namespace Go.Proofs.YtabjbdnokpjipaaGreat.Sr
open Go Go.Conc
section
variable(wg:Nat)(t:Array Value)
set_option maxRecDepth 100000
abbrev cp (a:Addr):Event:=⟨.cell a,false,true⟩
abbrev fu (a:Addr):Event:=⟨.cell a,true,true⟩
abbrev ff (m:Mark):Event:=⟨.mark m,false,true⟩
theorem SV:bF Tryz.prog undef (some (181,2)) (wk1 Tryz.prog wg t)=some ⟨wk2 Tryz.prog wg t,#[],[],[wg,wg],none⟩:=by kernel_rfl
theorem GX:bF Tryz.prog (.int .u64 4294967296) none (AZ Tryz.prog wg t)=some ⟨om Tryz.prog wg t 0,#[cp ⟨wg,0,none⟩,fu ⟨wg,0,none⟩],[⟨wg,0,none⟩,⟨wg,0,none⟩],[],some (⟨wg,0,none⟩,.int .u64 0)⟩:=by kernel_rfl
theorem GY:bF Tryz.prog (.int .u64 4294967297) none (AZ Tryz.prog wg t)=some ⟨om Tryz.prog wg t 1,#[cp ⟨wg,0,none⟩,fu ⟨wg,0,none⟩],[⟨wg,0,none⟩,⟨wg,0,none⟩],[],some (⟨wg,0,none⟩,.int .u64 1)⟩:=by kernel_rfl
theorem GZ:bF Tryz.prog (.int .u64 8589934592) none (AZ Tryz.prog wg t)=some ⟨om Tryz.prog wg t 4294967296,#[cp ⟨wg,0,none⟩,fu ⟨wg,0,none⟩],[⟨wg,0,none⟩,⟨wg,0,none⟩],[],some (⟨wg,0,none⟩,.int .u64 4294967296)⟩:=by kernel_rfl
theorem G0:bF Tryz.prog (.int .u64 8589934593) none (AZ Tryz.prog wg t)=some ⟨om Tryz.prog wg t 4294967297,#[cp ⟨wg,0,none⟩,fu ⟨wg,0,none⟩],[⟨wg,0,none⟩,⟨wg,0,none⟩],[],some (⟨wg,0,none⟩,.int .u64 4294967297)⟩:=by kernel_rfl
theorem G1:bF Tryz.prog (.int .u64 12884901888) none (AZ Tryz.prog wg t)=some ⟨om Tryz.prog wg t 8589934592,#[cp ⟨wg,0,none⟩,fu ⟨wg,0,none⟩],[⟨wg,0,none⟩,⟨wg,0,none⟩],[],some (⟨wg,0,none⟩,.int .u64 8589934592)⟩:=by kernel_rfl
theorem G2:bF Tryz.prog (.int .u64 12884901889) none (AZ Tryz.prog wg t)=some ⟨om Tryz.prog wg t 8589934593,#[cp ⟨wg,0,none⟩,fu ⟨wg,0,none⟩],[⟨wg,0,none⟩,⟨wg,0,none⟩],[],some (⟨wg,0,none⟩,.int .u64 8589934593)⟩:=by kernel_rfl
theorem G3:bF Tryz.prog (.int .u64 17179869184) none (AZ Tryz.prog wg t)=some ⟨om Tryz.prog wg t 12884901888,#[cp ⟨wg,0,none⟩,fu ⟨wg,0,none⟩],[⟨wg,0,none⟩,⟨wg,0,none⟩],[],some (⟨wg,0,none⟩,.int .u64 12884901888)⟩:=by kernel_rfl
theorem G4:bF Tryz.prog (.int .u64 17179869185) none (AZ Tryz.prog wg t)=some ⟨om Tryz.prog wg t 12884901889,#[cp ⟨wg,0,none⟩,fu ⟨wg,0,none⟩],[⟨wg,0,none⟩,⟨wg,0,none⟩],[],some (⟨wg,0,none⟩,.int .u64 12884901889)⟩:=by kernel_rfl
theorem G5:bF Tryz.prog (.int .u64 21474836480) none (AZ Tryz.prog wg t)=some ⟨om Tryz.prog wg t 17179869184,#[cp ⟨wg,0,none⟩,fu ⟨wg,0,none⟩],[⟨wg,0,none⟩,⟨wg,0,none⟩],[],some (⟨wg,0,none⟩,.int .u64 17179869184)⟩:=by kernel_rfl
theorem G6:bF Tryz.prog (.int .u64 21474836481) none (AZ Tryz.prog wg t)=some ⟨om Tryz.prog wg t 17179869185,#[cp ⟨wg,0,none⟩,fu ⟨wg,0,none⟩],[⟨wg,0,none⟩,⟨wg,0,none⟩],[],some (⟨wg,0,none⟩,.int .u64 17179869185)⟩:=by kernel_rfl
theorem SW:bF Tryz.prog (.int .u64 1) none (Z0 Tryz.prog wg t)=some ⟨bm (Z0 Tryz.prog wg t) (.int .u64 1),#[cp ⟨wg,0,none⟩],[⟨wg,0,none⟩],[],none⟩:=by kernel_rfl
theorem OD:bF Tryz.prog (.int .u64 1) none (Z1 Tryz.prog wg t)=some ⟨bm (Z1 Tryz.prog wg t) (.tuple #[]),#[fu ⟨wg,0,none⟩],[⟨wg,0,none⟩],[],some (⟨wg,0,none⟩,.int .u64 0)⟩:=by kernel_rfl
theorem SX:bF Tryz.prog (.int .u32 0) none (Rq Tryz.prog wg t)=some ⟨bm (Rq Tryz.prog wg t) (.tuple #[]),#[ff .disable,cp ⟨wg,1,none⟩,fu ⟨wg,1,none⟩,ff .enable],[⟨wg,1,none⟩,⟨wg,1,none⟩],[],some (⟨wg,1,none⟩,.int .u32 1)⟩:=by kernel_rfl
theorem JC:mayWake Tryz.prog (Rq Tryz.prog wg t)=true:=by kernel_rfl
end
end Go.Proofs.YtabjbdnokpjipaaGreat.Sr
