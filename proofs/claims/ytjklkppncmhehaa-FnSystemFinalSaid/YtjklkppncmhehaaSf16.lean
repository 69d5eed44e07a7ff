/-
What is proved: the starter's way through Add(+1): reckoned by the kernel: which steps are silent, which touch the group. No condition.
-/
import Derived.Test.YtjklkppncmhehaaSf06
set_option linter.unusedVariables false
set_option linter.unusedSimpArgs false
namespace Go.Proofs.Ytjklkppncmhehaa.Sr
open Go Go.Conc
def ad0 (P : Program) (wg : Nat) (c : Frame) (cs : List Frame) : Goroutine := { frame := Frame.enter P 81 #[.pointer (some ⟨wg, 0, none⟩), .int .i64 1] .normal, callers := c :: cs, status := .running, dying := none }
def ad1 (P : Program) (wg : Nat) (c : Frame) (cs : List Frame) : Goroutine := adv P 12 (ad0 P wg c cs)
def ad2 (P : Program) (wg : Nat) (c : Frame) (cs : List Frame) : Goroutine := evq P (ad1 P wg c cs)
def ad3 (P : Program) (wg : Nat) (c : Frame) (cs : List Frame) : Goroutine := adv P 34 (ad2 P wg c cs)
def ad4 (P : Program) (wg : Nat) (c : Frame) (cs : List Frame) (s : Int) : Goroutine := onto (ad3 P wg c cs) (.int .u64 s)
def ad5 (P : Program) (wg : Nat) (c : Frame) (cs : List Frame) : Goroutine := adv P 52 (ad4 P wg c cs 4294967296)
def ad6 (P : Program) (wg : Nat) (c : Frame) (cs : List Frame) : Goroutine := onto (ad5 P wg c cs) (.pointer (some ⟨wg, 1, none⟩))
def ad7 (P : Program) (wg : Nat) (c : Frame) (cs : List Frame) : Goroutine := evq P (ad6 P wg c cs)
def ad8 (P : Program) (wg : Nat) (c : Frame) (cs : List Frame) : Goroutine := adv P 39 (ad7 P wg c cs)
def ad9 (P : Program) (wg : Nat) (c : Frame) (cs : List Frame) (s : Int) : Goroutine := adv P 87 (ad4 P wg c cs s)
def adR (c : Frame) (cs : List Frame) : Goroutine := { frame := c.finish (.tuple #[]), callers := cs, status := .running, dying := none }
section
variable (wg : Nat) (c : Frame) (cs : List Frame)
set_option maxRecDepth 100000
theorem ad0_mute : mute Try.prog 12 (ad0 Try.prog wg c cs) = true := by kernel_rfl
theorem ad1_dis : qst Try.prog (ad1 Try.prog wg c cs) = some (ad2 Try.prog wg c cs, #[⟨.mark .disable, false, true⟩]) := by kernel_rfl
theorem ad2_mute : mute Try.prog 34 (ad2 Try.prog wg c cs) = true := by kernel_rfl
theorem ad4_mute : mute Try.prog 52 (ad4 Try.prog wg c cs 4294967296) = true := by kernel_rfl
theorem ad6_rd : qst Try.prog (ad6 Try.prog wg c cs) = some (ad7 Try.prog wg c cs, #[⟨.mark (.read ⟨wg, 1, none⟩), false, true⟩]) := by kernel_rfl
theorem ad7_mute : mute Try.prog 39 (ad7 Try.prog wg c cs) = true := by kernel_rfl
theorem ad8_en : ∃ g, qst Try.prog (ad8 Try.prog wg c cs) = some (g, #[⟨.mark .enable, false, true⟩]) ∧ mute Try.prog 1 g = true ∧ adv Try.prog 1 g = adR c cs := ⟨evq Try.prog (ad8 Try.prog wg c cs), by kernel_rfl, by kernel_rfl, by kernel_rfl⟩
theorem ad9_mute_2 : mute Try.prog 87 (ad4 Try.prog wg c cs 8589934592) = true := by kernel_rfl
theorem ad9_en_2 : ∃ g, qst Try.prog (ad9 Try.prog wg c cs 8589934592) = some (g, #[⟨.mark .enable, false, true⟩]) ∧ mute Try.prog 1 g = true ∧ adv Try.prog 1 g = adR c cs := ⟨evq Try.prog (ad9 Try.prog wg c cs 8589934592), by kernel_rfl, by kernel_rfl, by kernel_rfl⟩
theorem ad9_mute_3 : mute Try.prog 87 (ad4 Try.prog wg c cs 12884901888) = true := by kernel_rfl
theorem ad9_en_3 : ∃ g, qst Try.prog (ad9 Try.prog wg c cs 12884901888) = some (g, #[⟨.mark .enable, false, true⟩]) ∧ mute Try.prog 1 g = true ∧ adv Try.prog 1 g = adR c cs := ⟨evq Try.prog (ad9 Try.prog wg c cs 12884901888), by kernel_rfl, by kernel_rfl, by kernel_rfl⟩
theorem ad9_mute_4 : mute Try.prog 87 (ad4 Try.prog wg c cs 17179869184) = true := by kernel_rfl
theorem ad9_en_4 : ∃ g, qst Try.prog (ad9 Try.prog wg c cs 17179869184) = some (g, #[⟨.mark .enable, false, true⟩]) ∧ mute Try.prog 1 g = true ∧ adv Try.prog 1 g = adR c cs := ⟨evq Try.prog (ad9 Try.prog wg c cs 17179869184), by kernel_rfl, by kernel_rfl, by kernel_rfl⟩
theorem ad9_mute_5 : mute Try.prog 87 (ad4 Try.prog wg c cs 21474836480) = true := by kernel_rfl
theorem ad9_en_5 : ∃ g, qst Try.prog (ad9 Try.prog wg c cs 21474836480) = some (g, #[⟨.mark .enable, false, true⟩]) ∧ mute Try.prog 1 g = true ∧ adv Try.prog 1 g = adR c cs := ⟨evq Try.prog (ad9 Try.prog wg c cs 21474836480), by kernel_rfl, by kernel_rfl, by kernel_rfl⟩
end
end Go.Proofs.Ytjklkppncmhehaa.Sr
