/-
What is proved: the starter's way through Wait: reckoned by the kernel: which steps are silent, which touch the group. No condition.
-/
import Derived.Test.YtjklkppncmhehaaSf16
set_option linter.unusedVariables false
set_option linter.unusedSimpArgs false
namespace Go.Proofs.Ytjklkppncmhehaa.Sr
open Go Go.Conc
def wt0 (P : Program) (wg : Nat) (c : Frame) (cs : List Frame) : Goroutine := { frame := Frame.enter P 84 #[.pointer (some ⟨wg, 0, none⟩)] .normal, callers := c :: cs, status := .running, dying := none }
def wt1 (P : Program) (wg : Nat) (c : Frame) (cs : List Frame) : Goroutine := adv P 3 (wt0 P wg c cs)
def wt2 (P : Program) (wg : Nat) (c : Frame) (cs : List Frame) : Goroutine := evq P (wt1 P wg c cs)
def wt3 (P : Program) (wg : Nat) (c : Frame) (cs : List Frame) : Goroutine := adv P 3 (wt2 P wg c cs)
def wl (P : Program) (wg : Nat) (tm : Nat → Value) (c : Frame) (cs : List Frame) : Goroutine :=
  { frame := { fn := 84, tmps := (Value.pointer (some ⟨wg, 0, none⟩) :: (List.range 83).map tm).toArray, todo := (wt3 P 0 c []).frame.todo, defers := [], mode := .run, kind := .normal }, callers := c :: cs, status := .running, dying := none }
def tmOf (g : Goroutine) (i : Nat) : Value := g.frame.tmps.getD (i + 1) undef
def wl1 (P : Program) (wg : Nat) (tm : Nat → Value) (c : Frame) (cs : List Frame) : Goroutine := adv P 16 (wl P wg tm c cs)
def wl2 (P : Program) (wg : Nat) (tm : Nat → Value) (c : Frame) (cs : List Frame) (s : Int) : Goroutine := onto (wl1 P wg tm c cs) (.int .u64 s)
def wz1 (P : Program) (wg : Nat) (tm : Nat → Value) (c : Frame) (cs : List Frame) : Goroutine := adv P 31 (wl2 P wg tm c cs 0)
def wz2 (P : Program) (wg : Nat) (tm : Nat → Value) (c : Frame) (cs : List Frame) : Goroutine := adv P 3 (evq P (wz1 P wg tm c cs))
def wz3 (P : Program) (wg : Nat) (tm : Nat → Value) (c : Frame) (cs : List Frame) : Goroutine := onto (wz2 P wg tm c cs) (.pointer (some ⟨wg, 0, none⟩))
def wc1 (P : Program) (wg : Nat) (tm : Nat → Value) (c : Frame) (cs : List Frame) (s : Int) : Goroutine := adv P 48 (wl2 P wg tm c cs s)
def wc2 (P : Program) (wg : Nat) (tm : Nat → Value) (c : Frame) (cs : List Frame) (s : Int) (b : Bool) : Goroutine := onto (wc1 P wg tm c cs s) (.bool b)
def wr1 (P : Program) (wg : Nat) (tm : Nat → Value) (c : Frame) (cs : List Frame) (s : Int) : Goroutine := adv P 19 (wc2 P wg tm c cs s true)
def wr2 (P : Program) (wg : Nat) (tm : Nat → Value) (c : Frame) (cs : List Frame) (s : Int) : Goroutine := onto (wr1 P wg tm c cs s) (.pointer (some ⟨wg, 1, none⟩))
def wr3 (P : Program) (wg : Nat) (tm : Nat → Value) (c : Frame) (cs : List Frame) (s : Int) : Goroutine := adv P 23 (evq P (wr2 P wg tm c cs s))
def ww1 (P : Program) (wg : Nat) (tm : Nat → Value) (c : Frame) (cs : List Frame) (s : Int) : Goroutine := adv P 16 (onto (wr3 P wg tm c cs s) (.tuple #[]))
def ww2 (P : Program) (wg : Nat) (tm : Nat → Value) (c : Frame) (cs : List Frame) (s : Int) : Goroutine := adv P 11 (onto (ww1 P wg tm c cs s) (.int .u64 0))
def ww3 (P : Program) (wg : Nat) (tm : Nat → Value) (c : Frame) (cs : List Frame) (s : Int) : Goroutine := adv P 3 (evq P (ww2 P wg tm c cs s))
def ww4 (P : Program) (wg : Nat) (tm : Nat → Value) (c : Frame) (cs : List Frame) (s : Int) : Goroutine := onto (ww3 P wg tm c cs s) (.pointer (some ⟨wg, 0, none⟩))
section
variable (wg : Nat) (tm : Nat → Value) (c : Frame) (cs : List Frame)
set_option maxRecDepth 100000
theorem wt0_mute : mute Try.prog 3 (wt0 Try.prog wg c cs) = true := by kernel_rfl
theorem wt1_dis : qst Try.prog (wt1 Try.prog wg c cs) = some (wt2 Try.prog wg c cs, #[⟨.mark .disable, false, true⟩]) := by kernel_rfl
theorem wt2_mute : mute Try.prog 3 (wt2 Try.prog wg c cs) = true := by kernel_rfl
theorem wt3_head : wt3 Try.prog wg c cs = wl Try.prog wg (tmOf (wt3 Try.prog wg c cs)) c cs := by kernel_rfl
theorem wl_mute : mute Try.prog 16 (wl Try.prog wg tm c cs) = true := by kernel_rfl
theorem wz0_mute : mute Try.prog 31 (wl2 Try.prog wg tm c cs 0) = true := by kernel_rfl
theorem wz1_en : qst Try.prog (wz1 Try.prog wg tm c cs) = some (evq Try.prog (wz1 Try.prog wg tm c cs), #[⟨.mark .enable, false, true⟩]) := by kernel_rfl
theorem wz1_mute : mute Try.prog 3 (evq Try.prog (wz1 Try.prog wg tm c cs)) = true := by kernel_rfl
theorem wz3_acq : qst Try.prog (wz3 Try.prog wg tm c cs) = some (evq Try.prog (wz3 Try.prog wg tm c cs), #[⟨.mark (.acquire ⟨wg, 0, none⟩), false, true⟩]) := by kernel_rfl
theorem wz3_mute : mute Try.prog 20 (evq Try.prog (wz3 Try.prog wg tm c cs)) = true := by kernel_rfl
theorem wz3_ret : adv Try.prog 20 (evq Try.prog (wz3 Try.prog wg tm c cs)) = adR c cs := by kernel_rfl
theorem wl2_mute_1 : mute Try.prog 48 (wl2 Try.prog wg tm c cs 4294967296) = true := by kernel_rfl
theorem wc2_miss_1 : mute Try.prog 9 (wc2 Try.prog wg tm c cs 4294967296 false) = true := by kernel_rfl
theorem wc2_head_1 : adv Try.prog 9 (wc2 Try.prog wg tm c cs 4294967296 false) = wl Try.prog wg (tmOf (adv Try.prog 9 (wc2 Try.prog wg tm c cs 4294967296 false))) c cs := by kernel_rfl
theorem wc2_hit_1 : mute Try.prog 19 (wc2 Try.prog wg tm c cs 4294967296 true) = true := by kernel_rfl
theorem wr2_wr_1 : qst Try.prog (wr2 Try.prog wg tm c cs 4294967296) = some (evq Try.prog (wr2 Try.prog wg tm c cs 4294967296), #[⟨.mark (.write ⟨wg, 1, none⟩), false, true⟩]) := by kernel_rfl
theorem wr2_mute_1 : mute Try.prog 23 (evq Try.prog (wr2 Try.prog wg tm c cs 4294967296)) = true := by kernel_rfl
theorem wr3_mute_1 : mute Try.prog 16 (onto (wr3 Try.prog wg tm c cs 4294967296) (.tuple #[])) = true := by kernel_rfl
theorem ww1_mute_1 : mute Try.prog 11 (onto (ww1 Try.prog wg tm c cs 4294967296) (.int .u64 0)) = true := by kernel_rfl
theorem ww2_en_1 : qst Try.prog (ww2 Try.prog wg tm c cs 4294967296) = some (evq Try.prog (ww2 Try.prog wg tm c cs 4294967296), #[⟨.mark .enable, false, true⟩]) := by kernel_rfl
theorem ww2_mute_1 : mute Try.prog 3 (evq Try.prog (ww2 Try.prog wg tm c cs 4294967296)) = true := by kernel_rfl
theorem ww4_acq_1 : qst Try.prog (ww4 Try.prog wg tm c cs 4294967296) = some (evq Try.prog (ww4 Try.prog wg tm c cs 4294967296), #[⟨.mark (.acquire ⟨wg, 0, none⟩), false, true⟩]) := by kernel_rfl
theorem ww4_mute_1 : mute Try.prog 10 (evq Try.prog (ww4 Try.prog wg tm c cs 4294967296)) = true := by kernel_rfl
theorem ww4_ret_1 : adv Try.prog 10 (evq Try.prog (ww4 Try.prog wg tm c cs 4294967296)) = adR c cs := by kernel_rfl
theorem wl2_mute_2 : mute Try.prog 48 (wl2 Try.prog wg tm c cs 8589934592) = true := by kernel_rfl
theorem wc2_miss_2 : mute Try.prog 9 (wc2 Try.prog wg tm c cs 8589934592 false) = true := by kernel_rfl
theorem wc2_head_2 : adv Try.prog 9 (wc2 Try.prog wg tm c cs 8589934592 false) = wl Try.prog wg (tmOf (adv Try.prog 9 (wc2 Try.prog wg tm c cs 8589934592 false))) c cs := by kernel_rfl
theorem wc2_hit_2 : mute Try.prog 19 (wc2 Try.prog wg tm c cs 8589934592 true) = true := by kernel_rfl
theorem wr2_wr_2 : qst Try.prog (wr2 Try.prog wg tm c cs 8589934592) = some (evq Try.prog (wr2 Try.prog wg tm c cs 8589934592), #[⟨.mark (.write ⟨wg, 1, none⟩), false, true⟩]) := by kernel_rfl
theorem wr2_mute_2 : mute Try.prog 23 (evq Try.prog (wr2 Try.prog wg tm c cs 8589934592)) = true := by kernel_rfl
theorem wr3_mute_2 : mute Try.prog 16 (onto (wr3 Try.prog wg tm c cs 8589934592) (.tuple #[])) = true := by kernel_rfl
theorem ww1_mute_2 : mute Try.prog 11 (onto (ww1 Try.prog wg tm c cs 8589934592) (.int .u64 0)) = true := by kernel_rfl
theorem ww2_en_2 : qst Try.prog (ww2 Try.prog wg tm c cs 8589934592) = some (evq Try.prog (ww2 Try.prog wg tm c cs 8589934592), #[⟨.mark .enable, false, true⟩]) := by kernel_rfl
theorem ww2_mute_2 : mute Try.prog 3 (evq Try.prog (ww2 Try.prog wg tm c cs 8589934592)) = true := by kernel_rfl
theorem ww4_acq_2 : qst Try.prog (ww4 Try.prog wg tm c cs 8589934592) = some (evq Try.prog (ww4 Try.prog wg tm c cs 8589934592), #[⟨.mark (.acquire ⟨wg, 0, none⟩), false, true⟩]) := by kernel_rfl
theorem ww4_mute_2 : mute Try.prog 10 (evq Try.prog (ww4 Try.prog wg tm c cs 8589934592)) = true := by kernel_rfl
theorem ww4_ret_2 : adv Try.prog 10 (evq Try.prog (ww4 Try.prog wg tm c cs 8589934592)) = adR c cs := by kernel_rfl
theorem wl2_mute_3 : mute Try.prog 48 (wl2 Try.prog wg tm c cs 12884901888) = true := by kernel_rfl
theorem wc2_miss_3 : mute Try.prog 9 (wc2 Try.prog wg tm c cs 12884901888 false) = true := by kernel_rfl
theorem wc2_head_3 : adv Try.prog 9 (wc2 Try.prog wg tm c cs 12884901888 false) = wl Try.prog wg (tmOf (adv Try.prog 9 (wc2 Try.prog wg tm c cs 12884901888 false))) c cs := by kernel_rfl
theorem wc2_hit_3 : mute Try.prog 19 (wc2 Try.prog wg tm c cs 12884901888 true) = true := by kernel_rfl
theorem wr2_wr_3 : qst Try.prog (wr2 Try.prog wg tm c cs 12884901888) = some (evq Try.prog (wr2 Try.prog wg tm c cs 12884901888), #[⟨.mark (.write ⟨wg, 1, none⟩), false, true⟩]) := by kernel_rfl
theorem wr2_mute_3 : mute Try.prog 23 (evq Try.prog (wr2 Try.prog wg tm c cs 12884901888)) = true := by kernel_rfl
theorem wr3_mute_3 : mute Try.prog 16 (onto (wr3 Try.prog wg tm c cs 12884901888) (.tuple #[])) = true := by kernel_rfl
theorem ww1_mute_3 : mute Try.prog 11 (onto (ww1 Try.prog wg tm c cs 12884901888) (.int .u64 0)) = true := by kernel_rfl
theorem ww2_en_3 : qst Try.prog (ww2 Try.prog wg tm c cs 12884901888) = some (evq Try.prog (ww2 Try.prog wg tm c cs 12884901888), #[⟨.mark .enable, false, true⟩]) := by kernel_rfl
theorem ww2_mute_3 : mute Try.prog 3 (evq Try.prog (ww2 Try.prog wg tm c cs 12884901888)) = true := by kernel_rfl
theorem ww4_acq_3 : qst Try.prog (ww4 Try.prog wg tm c cs 12884901888) = some (evq Try.prog (ww4 Try.prog wg tm c cs 12884901888), #[⟨.mark (.acquire ⟨wg, 0, none⟩), false, true⟩]) := by kernel_rfl
theorem ww4_mute_3 : mute Try.prog 10 (evq Try.prog (ww4 Try.prog wg tm c cs 12884901888)) = true := by kernel_rfl
theorem ww4_ret_3 : adv Try.prog 10 (evq Try.prog (ww4 Try.prog wg tm c cs 12884901888)) = adR c cs := by kernel_rfl
theorem wl2_mute_4 : mute Try.prog 48 (wl2 Try.prog wg tm c cs 17179869184) = true := by kernel_rfl
theorem wc2_miss_4 : mute Try.prog 9 (wc2 Try.prog wg tm c cs 17179869184 false) = true := by kernel_rfl
theorem wc2_head_4 : adv Try.prog 9 (wc2 Try.prog wg tm c cs 17179869184 false) = wl Try.prog wg (tmOf (adv Try.prog 9 (wc2 Try.prog wg tm c cs 17179869184 false))) c cs := by kernel_rfl
theorem wc2_hit_4 : mute Try.prog 19 (wc2 Try.prog wg tm c cs 17179869184 true) = true := by kernel_rfl
theorem wr2_wr_4 : qst Try.prog (wr2 Try.prog wg tm c cs 17179869184) = some (evq Try.prog (wr2 Try.prog wg tm c cs 17179869184), #[⟨.mark (.write ⟨wg, 1, none⟩), false, true⟩]) := by kernel_rfl
theorem wr2_mute_4 : mute Try.prog 23 (evq Try.prog (wr2 Try.prog wg tm c cs 17179869184)) = true := by kernel_rfl
theorem wr3_mute_4 : mute Try.prog 16 (onto (wr3 Try.prog wg tm c cs 17179869184) (.tuple #[])) = true := by kernel_rfl
theorem ww1_mute_4 : mute Try.prog 11 (onto (ww1 Try.prog wg tm c cs 17179869184) (.int .u64 0)) = true := by kernel_rfl
theorem ww2_en_4 : qst Try.prog (ww2 Try.prog wg tm c cs 17179869184) = some (evq Try.prog (ww2 Try.prog wg tm c cs 17179869184), #[⟨.mark .enable, false, true⟩]) := by kernel_rfl
theorem ww2_mute_4 : mute Try.prog 3 (evq Try.prog (ww2 Try.prog wg tm c cs 17179869184)) = true := by kernel_rfl
theorem ww4_acq_4 : qst Try.prog (ww4 Try.prog wg tm c cs 17179869184) = some (evq Try.prog (ww4 Try.prog wg tm c cs 17179869184), #[⟨.mark (.acquire ⟨wg, 0, none⟩), false, true⟩]) := by kernel_rfl
theorem ww4_mute_4 : mute Try.prog 10 (evq Try.prog (ww4 Try.prog wg tm c cs 17179869184)) = true := by kernel_rfl
theorem ww4_ret_4 : adv Try.prog 10 (evq Try.prog (ww4 Try.prog wg tm c cs 17179869184)) = adR c cs := by kernel_rfl
theorem wl2_mute_5 : mute Try.prog 48 (wl2 Try.prog wg tm c cs 21474836480) = true := by kernel_rfl
theorem wc2_miss_5 : mute Try.prog 9 (wc2 Try.prog wg tm c cs 21474836480 false) = true := by kernel_rfl
theorem wc2_head_5 : adv Try.prog 9 (wc2 Try.prog wg tm c cs 21474836480 false) = wl Try.prog wg (tmOf (adv Try.prog 9 (wc2 Try.prog wg tm c cs 21474836480 false))) c cs := by kernel_rfl
theorem wc2_hit_5 : mute Try.prog 19 (wc2 Try.prog wg tm c cs 21474836480 true) = true := by kernel_rfl
theorem wr2_wr_5 : qst Try.prog (wr2 Try.prog wg tm c cs 21474836480) = some (evq Try.prog (wr2 Try.prog wg tm c cs 21474836480), #[⟨.mark (.write ⟨wg, 1, none⟩), false, true⟩]) := by kernel_rfl
theorem wr2_mute_5 : mute Try.prog 23 (evq Try.prog (wr2 Try.prog wg tm c cs 21474836480)) = true := by kernel_rfl
theorem wr3_mute_5 : mute Try.prog 16 (onto (wr3 Try.prog wg tm c cs 21474836480) (.tuple #[])) = true := by kernel_rfl
theorem ww1_mute_5 : mute Try.prog 11 (onto (ww1 Try.prog wg tm c cs 21474836480) (.int .u64 0)) = true := by kernel_rfl
theorem ww2_en_5 : qst Try.prog (ww2 Try.prog wg tm c cs 21474836480) = some (evq Try.prog (ww2 Try.prog wg tm c cs 21474836480), #[⟨.mark .enable, false, true⟩]) := by kernel_rfl
theorem ww2_mute_5 : mute Try.prog 3 (evq Try.prog (ww2 Try.prog wg tm c cs 21474836480)) = true := by kernel_rfl
theorem ww4_acq_5 : qst Try.prog (ww4 Try.prog wg tm c cs 21474836480) = some (evq Try.prog (ww4 Try.prog wg tm c cs 21474836480), #[⟨.mark (.acquire ⟨wg, 0, none⟩), false, true⟩]) := by kernel_rfl
theorem ww4_mute_5 : mute Try.prog 10 (evq Try.prog (ww4 Try.prog wg tm c cs 21474836480)) = true := by kernel_rfl
theorem ww4_ret_5 : adv Try.prog 10 (evq Try.prog (ww4 Try.prog wg tm c cs 21474836480)) = adR c cs := by kernel_rfl
end
end Go.Proofs.Ytjklkppncmhehaa.Sr
