/-
What is proved: the visible steps of the worker's Done, reckoned by the kernel. No condition.
-/
import Derived.Test.YtjklkppncmhehaaSf05
import Derived.Test.YtjklkppncmhehaaSf06
set_option linter.unusedVariables false
set_option linter.unusedSimpArgs false
namespace Go.Proofs.Ytjklkppncmhehaa.Sr
open Go Go.Conc
section
variable (wg : Nat) (t : Array Value)
set_option maxRecDepth 100000
abbrev rdE (a : Addr) : Event := ⟨.cell a, false, true⟩
abbrev wrE (a : Addr) : Event := ⟨.cell a, true, true⟩
abbrev mkE (m : Mark) : Event := ⟨.mark m, false, true⟩
theorem wk1_conv : vst Try.prog undef (some (126, 2)) (wk1 Try.prog wg t) = some ⟨wk2 Try.prog wg t, #[], [], [wg, wg], none⟩ := by kernel_rfl
theorem wk6_add_1_0 : vst Try.prog (.int .u64 4294967296) none (wk6 Try.prog wg t) = some ⟨wk7 Try.prog wg t 0, #[rdE ⟨wg, 0, none⟩, wrE ⟨wg, 0, none⟩], [⟨wg, 0, none⟩, ⟨wg, 0, none⟩], [], some (⟨wg, 0, none⟩, .int .u64 0)⟩ := by kernel_rfl
theorem wk6_add_1_1 : vst Try.prog (.int .u64 4294967297) none (wk6 Try.prog wg t) = some ⟨wk7 Try.prog wg t 1, #[rdE ⟨wg, 0, none⟩, wrE ⟨wg, 0, none⟩], [⟨wg, 0, none⟩, ⟨wg, 0, none⟩], [], some (⟨wg, 0, none⟩, .int .u64 1)⟩ := by kernel_rfl
theorem wk6_add_2_0 : vst Try.prog (.int .u64 8589934592) none (wk6 Try.prog wg t) = some ⟨wk7 Try.prog wg t 4294967296, #[rdE ⟨wg, 0, none⟩, wrE ⟨wg, 0, none⟩], [⟨wg, 0, none⟩, ⟨wg, 0, none⟩], [], some (⟨wg, 0, none⟩, .int .u64 4294967296)⟩ := by kernel_rfl
theorem wk6_add_2_1 : vst Try.prog (.int .u64 8589934593) none (wk6 Try.prog wg t) = some ⟨wk7 Try.prog wg t 4294967297, #[rdE ⟨wg, 0, none⟩, wrE ⟨wg, 0, none⟩], [⟨wg, 0, none⟩, ⟨wg, 0, none⟩], [], some (⟨wg, 0, none⟩, .int .u64 4294967297)⟩ := by kernel_rfl
theorem wk6_add_3_0 : vst Try.prog (.int .u64 12884901888) none (wk6 Try.prog wg t) = some ⟨wk7 Try.prog wg t 8589934592, #[rdE ⟨wg, 0, none⟩, wrE ⟨wg, 0, none⟩], [⟨wg, 0, none⟩, ⟨wg, 0, none⟩], [], some (⟨wg, 0, none⟩, .int .u64 8589934592)⟩ := by kernel_rfl
theorem wk6_add_3_1 : vst Try.prog (.int .u64 12884901889) none (wk6 Try.prog wg t) = some ⟨wk7 Try.prog wg t 8589934593, #[rdE ⟨wg, 0, none⟩, wrE ⟨wg, 0, none⟩], [⟨wg, 0, none⟩, ⟨wg, 0, none⟩], [], some (⟨wg, 0, none⟩, .int .u64 8589934593)⟩ := by kernel_rfl
theorem wk6_add_4_0 : vst Try.prog (.int .u64 17179869184) none (wk6 Try.prog wg t) = some ⟨wk7 Try.prog wg t 12884901888, #[rdE ⟨wg, 0, none⟩, wrE ⟨wg, 0, none⟩], [⟨wg, 0, none⟩, ⟨wg, 0, none⟩], [], some (⟨wg, 0, none⟩, .int .u64 12884901888)⟩ := by kernel_rfl
theorem wk6_add_4_1 : vst Try.prog (.int .u64 17179869185) none (wk6 Try.prog wg t) = some ⟨wk7 Try.prog wg t 12884901889, #[rdE ⟨wg, 0, none⟩, wrE ⟨wg, 0, none⟩], [⟨wg, 0, none⟩, ⟨wg, 0, none⟩], [], some (⟨wg, 0, none⟩, .int .u64 12884901889)⟩ := by kernel_rfl
theorem wk6_add_5_0 : vst Try.prog (.int .u64 21474836480) none (wk6 Try.prog wg t) = some ⟨wk7 Try.prog wg t 17179869184, #[rdE ⟨wg, 0, none⟩, wrE ⟨wg, 0, none⟩], [⟨wg, 0, none⟩, ⟨wg, 0, none⟩], [], some (⟨wg, 0, none⟩, .int .u64 17179869184)⟩ := by kernel_rfl
theorem wk6_add_5_1 : vst Try.prog (.int .u64 21474836481) none (wk6 Try.prog wg t) = some ⟨wk7 Try.prog wg t 17179869185, #[rdE ⟨wg, 0, none⟩, wrE ⟨wg, 0, none⟩], [⟨wg, 0, none⟩, ⟨wg, 0, none⟩], [], some (⟨wg, 0, none⟩, .int .u64 17179869185)⟩ := by kernel_rfl
theorem wk8_load : vst Try.prog (.int .u64 1) none (wk8 Try.prog wg t) = some ⟨onto (wk8 Try.prog wg t) (.int .u64 1), #[rdE ⟨wg, 0, none⟩], [⟨wg, 0, none⟩], [], none⟩ := by kernel_rfl
theorem wk9_store : vst Try.prog (.int .u64 1) none (wk9 Try.prog wg t) = some ⟨onto (wk9 Try.prog wg t) (.tuple #[]), #[wrE ⟨wg, 0, none⟩], [⟨wg, 0, none⟩], [], some (⟨wg, 0, none⟩, .int .u64 0)⟩ := by kernel_rfl
theorem wk10_sem : vst Try.prog (.int .u32 0) none (wk10 Try.prog wg t) = some ⟨onto (wk10 Try.prog wg t) (.tuple #[]), #[mkE .disable, rdE ⟨wg, 1, none⟩, wrE ⟨wg, 1, none⟩, mkE .enable], [⟨wg, 1, none⟩, ⟨wg, 1, none⟩], [], some (⟨wg, 1, none⟩, .int .u32 1)⟩ := by kernel_rfl
theorem wk10_wakes : mayWake Try.prog (wk10 Try.prog wg t) = true := by kernel_rfl
end
end Go.Proofs.Ytjklkppncmhehaa.Sr
