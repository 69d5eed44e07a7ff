/-
What is proved: the worker's way from its last store on: the deferred Done, reckoned by the kernel: which steps are silent, which touch the group. No condition.
-/
import Derived.Test.YtjklkppncmhehaaSf05
import Derived.KernelRfl
set_option linter.unusedVariables false
set_option linter.unusedSimpArgs false
namespace Go.Proofs.Ytjklkppncmhehaa.Sr
open Go Go.Conc
def botF (P : Program) : Frame := { (default : Frame) with fn := P.funcs.size, defers := [], mode := .panicking [goexitEntry] }
def wk0 (P : Program) (wg : Nat) (t : Array Value) : Goroutine :=
  { frame := { fn := 82, tmps := t, todo := [], defers := [{ target := .fn (.func 83) #[], args := #[.pointer (some ⟨wg, 0, none⟩)] }], mode := .run, kind := .deferred },
    callers := [botF P], status := .running, dying := none }
def wk1 (P : Program) (wg : Nat) (t : Array Value) : Goroutine := adv P 16 (wk0 P wg t)
def wk2 (P : Program) (wg : Nat) (t : Array Value) : Goroutine := onto (wk1 P wg t) (.pointer (some ⟨wg, 0, none⟩))
def evq (P : Program) (g : Goroutine) : Goroutine := match qst P g with | some (g', _) => g' | none => g
def wk3 (P : Program) (wg : Nat) (t : Array Value) : Goroutine := evq P (wk2 P wg t)
def wk4 (P : Program) (wg : Nat) (t : Array Value) : Goroutine := adv P 3 (wk3 P wg t)
def wk5 (P : Program) (wg : Nat) (t : Array Value) : Goroutine := evq P (wk4 P wg t)
def wk6 (P : Program) (wg : Nat) (t : Array Value) : Goroutine := adv P 34 (wk5 P wg t)
def wk7 (P : Program) (wg : Nat) (t : Array Value) (s : Int) : Goroutine := onto (wk6 P wg t) (.int .u64 s)
def wk8 (P : Program) (wg : Nat) (t : Array Value) : Goroutine := adv P 103 (wk7 P wg t 1)
def wk9 (P : Program) (wg : Nat) (t : Array Value) : Goroutine := adv P 20 (onto (wk8 P wg t) (.int .u64 1))
def wk10 (P : Program) (wg : Nat) (t : Array Value) : Goroutine := adv P 27 (onto (wk9 P wg t) (.tuple #[]))
section
variable (wg : Nat) (t : Array Value)
set_option maxRecDepth 100000
theorem wk0_mute : mute Try.prog 16 (wk0 Try.prog wg t) = true := by kernel_rfl
theorem wk2_rel : qst Try.prog (wk2 Try.prog wg t) = some (wk3 Try.prog wg t, #[⟨.mark (.releaseMerge ⟨wg, 0, none⟩), false, true⟩]) := by kernel_rfl
theorem wk3_mute : mute Try.prog 3 (wk3 Try.prog wg t) = true := by kernel_rfl
theorem wk4_dis : qst Try.prog (wk4 Try.prog wg t) = some (wk5 Try.prog wg t, #[⟨.mark .disable, false, true⟩]) := by kernel_rfl
theorem wk5_mute : mute Try.prog 34 (wk5 Try.prog wg t) = true := by kernel_rfl
theorem wk7_quits_0_0 : quits Try.prog 110 1 (wk7 Try.prog wg t 0) = true := by kernel_rfl
theorem wk7_quits_1_0 : quits Try.prog 110 1 (wk7 Try.prog wg t 4294967296) = true := by kernel_rfl
theorem wk7_quits_1_1 : quits Try.prog 110 1 (wk7 Try.prog wg t 4294967297) = true := by kernel_rfl
theorem wk7_quits_2_0 : quits Try.prog 110 1 (wk7 Try.prog wg t 8589934592) = true := by kernel_rfl
theorem wk7_quits_2_1 : quits Try.prog 110 1 (wk7 Try.prog wg t 8589934593) = true := by kernel_rfl
theorem wk7_quits_3_0 : quits Try.prog 110 1 (wk7 Try.prog wg t 12884901888) = true := by kernel_rfl
theorem wk7_quits_3_1 : quits Try.prog 110 1 (wk7 Try.prog wg t 12884901889) = true := by kernel_rfl
theorem wk7_quits_4_0 : quits Try.prog 110 1 (wk7 Try.prog wg t 17179869184) = true := by kernel_rfl
theorem wk7_quits_4_1 : quits Try.prog 110 1 (wk7 Try.prog wg t 17179869185) = true := by kernel_rfl
theorem wk7_mute : mute Try.prog 103 (wk7 Try.prog wg t 1) = true := by kernel_rfl
theorem wk8_mute : mute Try.prog 20 (onto (wk8 Try.prog wg t) (.int .u64 1)) = true := by kernel_rfl
theorem wk9_mute : mute Try.prog 27 (onto (wk9 Try.prog wg t) (.tuple #[])) = true := by kernel_rfl
theorem wk10_quits : quits Try.prog 30 1 (onto (wk10 Try.prog wg t) (.tuple #[])) = true := by kernel_rfl
end
end Go.Proofs.Ytjklkppncmhehaa.Sr
