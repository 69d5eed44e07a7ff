/-
What is proved: the starter's way through impl.entriesOf and impl.ask: reckoned by the kernel: which steps are silent, which touch memory. No condition.
-/
import Derived.Test.YtjklkppncmhehaaSf21
import Derived.Test.YtjklkppncmhehaaSf09
import Derived.Test.YtjklkppncmhehaaSf16
import Derived.Test.YtjklkppncmhehaaSf17
set_option linter.unusedVariables false
set_option linter.unusedSimpArgs false
namespace Go.Proofs.Ytjklkppncmhehaa.Sr
open Go Go.Conc
def nx (P : Program) (r : Nat) (g : Goroutine) : Goroutine := match nstep P r g with | some (g', _) => g' | none => g
def sx (P : Program) (g : Goroutine) : Goroutine := match sstep P g with | some (g', _) => g' | none => g
def as0 (P : Program) (ga : Addr) (gl gc sb so sc : Nat) (ms : Int) (N n : Nat) (c : Frame) (cs : List Frame) : Goroutine := { frame := Frame.enter P 51 #[.slice (some ga) gl gc, .slice (some ⟨sb, so, none⟩) n sc, .int .i64 ms] .normal, callers := c :: cs, status := .running, dying := none }
def as1 (P : Program) (ga : Addr) (gl gc sb so sc : Nat) (ms : Int) (N n : Nat) (c : Frame) (cs : List Frame) : Goroutine := adv P 2 (as0 P ga gl gc sb so sc ms N n c cs)
def as2 (P : Program) (ga : Addr) (gl gc sb so sc : Nat) (ms : Int) (N n : Nat) (c : Frame) (cs : List Frame) : Goroutine := nx P N (as1 P ga gl gc sb so sc ms N n c cs)
def as3 (P : Program) (ga : Addr) (gl gc sb so sc : Nat) (ms : Int) (N n : Nat) (c : Frame) (cs : List Frame) : Goroutine := adv P 9 (nx P (N + 1) (as2 P ga gl gc sb so sc ms N n c cs))
def as4 (P : Program) (ga : Addr) (gl gc sb so sc : Nat) (ms : Int) (N n : Nat) (c : Frame) (cs : List Frame) : Goroutine := adv P 6 (nx P (N + 2) (as3 P ga gl gc sb so sc ms N n c cs))
def as5 (P : Program) (ga : Addr) (gl gc sb so sc : Nat) (ms : Int) (N n : Nat) (c : Frame) (cs : List Frame) : Goroutine := nx P (N + 3) (as4 P ga gl gc sb so sc ms N n c cs)
def as6 (P : Program) (ga : Addr) (gl gc sb so sc : Nat) (ms : Int) (N n : Nat) (c : Frame) (cs : List Frame) : Goroutine := nx P (N + 4) (as5 P ga gl gc sb so sc ms N n c cs)
def as7 (P : Program) (ga : Addr) (gl gc sb so sc : Nat) (ms : Int) (N n : Nat) (c : Frame) (cs : List Frame) : Goroutine := adv P 3 (sx P (as6 P ga gl gc sb so sc ms N n c cs))
def as8 (P : Program) (ga : Addr) (gl gc sb so sc : Nat) (ms : Int) (N n : Nat) (c : Frame) (cs : List Frame) : Goroutine := adv P 10 (nx P (N + 5) (as7 P ga gl gc sb so sc ms N n c cs))
def nAd : Addr := ⟨0, 0, none⟩
def f51 (P : Program) (ga : Addr) (gl gc sb so sc : Nat) (ms : Int) (N n : Nat) : Frame := match (as4 P ga gl gc sb so sc ms N n default []).callers with
  | f :: _ => f
  | [] => default
def fnq (N : Nat) : Value := .func (.func 70) #[] #[ptr N, ptr (N + 1)]
def lpF (ga : Addr) (gl gc sb so sc : Nat) (ms : Int) (N n : Nat) (i : Int) (x : Nat → Value) (todo : List Item) : Frame :=
  { fn := 69, tmps := #[.slice (some ⟨sb, so, none⟩) n sc, fnq N, undef, ptr (N + 2), .slice none 0 0, ptr (N + 4), ptr (N + 5), x 0, x 1, .slice (some ⟨sb, so, none⟩) n sc, .int .i64 n, .slice (some ⟨N + 3, 0, none⟩) n n, .slice (some ⟨sb, so, none⟩) n sc, .int .i64 n, .int .i64 i,
      x 2, x 3, x 4, x 5, x 6, x 7, x 8, x 9, x 10], todo, defers := [], mode := .run, kind := .normal }
def lpC (P : Program) (ga : Addr) (gl gc sb so sc : Nat) (ms : Int) (N n : Nat) (c : Frame) (cs : List Frame) : List Frame := f51 P ga gl gc sb so sc ms N n :: c :: cs
def lpG (P : Program) (ga : Addr) (gl gc sb so sc : Nat) (ms : Int) (N n : Nat) (c : Frame) (cs : List Frame) (i : Int) (x : Nat → Value) (todo : List Item) : Goroutine := { frame := lpF ga gl gc sb so sc ms N n i x todo, callers := lpC P ga gl gc sb so sc ms N n c cs, status := .running, dying := none }
def hdT (P : Program) : List Item := (as8 P nAd 0 0 0 0 0 0 0 1 default []).frame.todo
def lqT (P : Program) : List Item := (onto (adv P 13 (as8 P nAd 0 0 0 0 0 0 0 1 default [])) (.int .i64 0)).frame.todo
def x0 (_ : Nat) : Value := undef
def xl (x : Nat → Value) (i : Int) (a : Addr) (g : Int) : Nat → Value
  | 0 => x 0
  | 1 => x 1
  | 2 => .bool true
  | 3 => .int .i64 i
  | 4 => .pointer (some a)
  | 5 => .int .i64 g
  | 6 => x 6
  | 7 => x 7
  | 8 => x 8
  | 9 => x 9
  | _ => x 10
def lq0 (P : Program) (ga : Addr) (gl gc sb so sc : Nat) (ms : Int) (N n : Nat) (c : Frame) (cs : List Frame) (i : Int) (x : Nat → Value) : Goroutine := lpG P ga gl gc sb so sc ms N n c cs i x (lqT P)
def lq1 (P : Program) (ga : Addr) (gl gc sb so sc : Nat) (ms : Int) (N n : Nat) (c : Frame) (cs : List Frame) (i : Int) (x : Nat → Value) (r1 : Nat) : Goroutine := nx P r1 (lq0 P ga gl gc sb so sc ms N n c cs i x)
def lq2 (P : Program) (ga : Addr) (gl gc sb so sc : Nat) (ms : Int) (N n : Nat) (c : Frame) (cs : List Frame) (i : Int) (x : Nat → Value) (r1 r2 : Nat) : Goroutine := nx P r2 (lq1 P ga gl gc sb so sc ms N n c cs i x r1)
def lq3 (P : Program) (ga : Addr) (gl gc sb so sc : Nat) (ms : Int) (N n : Nat) (c : Frame) (cs : List Frame) (i : Int) (x : Nat → Value) (r1 r2 : Nat) : Goroutine := sx P (lq2 P ga gl gc sb so sc ms N n c cs i x r1 r2)
def lq4 (P : Program) (ga : Addr) (gl gc sb so sc : Nat) (ms : Int) (N n : Nat) (c : Frame) (cs : List Frame) (i : Int) (x : Nat → Value) (r1 r2 : Nat) : Goroutine := sx P (lq3 P ga gl gc sb so sc ms N n c cs i x r1 r2)
def laF (P : Program) (ga : Addr) (gl gc sb so sc : Nat) (ms : Int) (N n : Nat) (c : Frame) (cs : List Frame) (i : Int) (x : Nat → Value) (r1 r2 : Nat) : Frame := (adv P 3 (lq4 P ga gl gc sb so sc ms N n c cs i x r1 r2)).frame
def lr0 (P : Program) (ga : Addr) (gl gc sb so sc : Nat) (ms : Int) (N n : Nat) (c : Frame) (cs : List Frame) (i : Int) (x : Nat → Value) (r1 r2 : Nat) : Goroutine := adR (laF P ga gl gc sb so sc ms N n c cs i x r1 r2) (lpC P ga gl gc sb so sc ms N n c cs)
def px (P : Program) (g : Goroutine) : Goroutine := match pstep P g with | some (g', _) => g' | none => g
def lr1 (P : Program) (ga : Addr) (gl gc sb so sc : Nat) (ms : Int) (N n : Nat) (c : Frame) (cs : List Frame) (i : Int) (x : Nat → Value) (r1 r2 : Nat) : Goroutine := adv P 3 (lr0 P ga gl gc sb so sc ms N n c cs i x r1 r2)
def lr2 (P : Program) (ga : Addr) (gl gc sb so sc : Nat) (ms : Int) (N n : Nat) (c : Frame) (cs : List Frame) (i : Int) (x : Nat → Value) (r1 r2 : Nat) : Goroutine := px P (lr1 P ga gl gc sb so sc ms N n c cs i x r1 r2)
def xn (g : Goroutine) : Nat → Value
  | 0 => g.frame.tmps.getD 7 undef
  | 1 => g.frame.tmps.getD 8 undef
  | k + 2 => g.frame.tmps.getD (k + 15) undef
def lwF (P : Program) (ga : Addr) (gl gc sb so sc : Nat) (ms : Int) (N n : Nat) (c : Frame) (cs : List Frame) (x : Nat → Value) : Frame := (adv P 9 (lpG P ga gl gc sb so sc ms N n c cs n x (hdT P))).frame
def lw0 (P : Program) (ga : Addr) (gl gc sb so sc : Nat) (ms : Int) (N n : Nat) (c : Frame) (cs : List Frame) (x : Nat → Value) : Goroutine := adR (lwF P ga gl gc sb so sc ms N n c cs x) (lpC P ga gl gc sb so sc ms N n c cs)
def lw1 (P : Program) (ga : Addr) (gl gc sb so sc : Nat) (ms : Int) (N n : Nat) (c : Frame) (cs : List Frame) (x : Nat → Value) : Goroutine := adv P 3 (lw0 P ga gl gc sb so sc ms N n c cs x)
section
variable (ga : Addr) (gl gc sb so sc : Nat) (ms : Int) (N n : Nat) (c : Frame) (cs : List Frame) (i : Int) (x : Nat → Value) (r1 r2 : Nat)
set_option maxRecDepth 100000
theorem as0_mute : mute Try.prog 2 (as0 Try.prog ga gl gc sb so sc ms N n c cs) = true := by kernel_rfl
theorem as1_new : nstep Try.prog N (as1 Try.prog ga gl gc sb so sc ms N n c cs) = some (as2 Try.prog ga gl gc sb so sc ms N n c cs, #[], .cells #[.slice (some ga) gl gc] 24) := by kernel_rfl
theorem as2_new : nstep Try.prog (N + 1) (as2 Try.prog ga gl gc sb so sc ms N n c cs) = some (nx Try.prog (N + 1) (as2 Try.prog ga gl gc sb so sc ms N n c cs), #[], .cells #[.int .i64 ms] 3) := by kernel_rfl
theorem as2_mute : mute Try.prog 9 (nx Try.prog (N + 1) (as2 Try.prog ga gl gc sb so sc ms N n c cs)) = true := by kernel_rfl
theorem as3_new : nstep Try.prog (N + 2) (as3 Try.prog ga gl gc sb so sc ms N n c cs) = some (nx Try.prog (N + 2) (as3 Try.prog ga gl gc sb so sc ms N n c cs), #[], .cells #[fnq N] 110) := by kernel_rfl
theorem as3_mute : mute Try.prog 6 (nx Try.prog (N + 2) (as3 Try.prog ga gl gc sb so sc ms N n c cs)) = true := by kernel_rfl
theorem as4_new_1 : nstep Try.prog (N + 3) (as4 Try.prog ga gl gc sb so sc ms N 1 c cs) = some (as5 Try.prog ga gl gc sb so sc ms N 1 c cs, #[], .cells #[.int .i64 0, .int .i64 0, .int .i64 0, .bool false, .bool false] 91) := by kernel_rfl
theorem as5_new_1 : nstep Try.prog (N + 4) (as5 Try.prog ga gl gc sb so sc ms N 1 c cs) = some (as6 Try.prog ga gl gc sb so sc ms N 1 c cs, #[], .cells #[.slice none 0 0] 87) := by kernel_rfl
theorem as6_put_1 : sstep Try.prog (as6 Try.prog ga gl gc sb so sc ms N 1 c cs) = some (sx Try.prog (as6 Try.prog ga gl gc sb so sc ms N 1 c cs), #[plE ⟨N + 4, 0, none⟩ true], [(⟨N + 4, 0, none⟩, .slice (some ⟨N + 3, 0, none⟩) 1 1)]) := by kernel_rfl
theorem as6_mute_1 : mute Try.prog 3 (sx Try.prog (as6 Try.prog ga gl gc sb so sc ms N 1 c cs)) = true := by kernel_rfl
theorem as7_new_1 : nstep Try.prog (N + 5) (as7 Try.prog ga gl gc sb so sc ms N 1 c cs) = some (nx Try.prog (N + 5) (as7 Try.prog ga gl gc sb so sc ms N 1 c cs), #[], .cells #[.int .u64 0, .int .u32 0] 126) := by kernel_rfl
theorem as7_mute_1 : mute Try.prog 10 (nx Try.prog (N + 5) (as7 Try.prog ga gl gc sb so sc ms N 1 c cs)) = true := by kernel_rfl
theorem as8_head_1 : as8 Try.prog ga gl gc sb so sc ms N 1 c cs = lpG Try.prog ga gl gc sb so sc ms N 1 c cs 0 x0 (hdT Try.prog) := by kernel_rfl
theorem hd_mute_1_0 : mute Try.prog 13 (lpG Try.prog ga gl gc sb so sc ms N 1 c cs 0 x (hdT Try.prog)) = true := by kernel_rfl
theorem hd_load_1_0 (g : Int) : lstep Try.prog (.int .i64 g) (adv Try.prog 13 (lpG Try.prog ga gl gc sb so sc ms N 1 c cs 0 x (hdT Try.prog))) = some (lq0 Try.prog ga gl gc sb so sc ms N 1 c cs 0 (xl x 0 ⟨sb, so + 0, none⟩ g), #[plE ⟨sb, so + 0, none⟩ false], [⟨sb, so + 0, none⟩]) := by kernel_rfl
theorem hd_wait_1 : mute Try.prog 10 (lpG Try.prog ga gl gc sb so sc ms N 1 c cs 1 x (hdT Try.prog)) = true := by kernel_rfl
theorem hd_wait'_1 : adv Try.prog 10 (lpG Try.prog ga gl gc sb so sc ms N 1 c cs 1 x (hdT Try.prog)) = wt0 Try.prog (N + 5) (lwF Try.prog ga gl gc sb so sc ms N 1 c cs x) (lpC Try.prog ga gl gc sb so sc ms N 1 c cs) := by kernel_rfl
theorem as4_new_2 : nstep Try.prog (N + 3) (as4 Try.prog ga gl gc sb so sc ms N 2 c cs) = some (as5 Try.prog ga gl gc sb so sc ms N 2 c cs, #[], .cells #[.int .i64 0, .int .i64 0, .int .i64 0, .bool false, .bool false, .int .i64 0, .int .i64 0, .int .i64 0, .bool false, .bool false] 91) := by kernel_rfl
theorem as5_new_2 : nstep Try.prog (N + 4) (as5 Try.prog ga gl gc sb so sc ms N 2 c cs) = some (as6 Try.prog ga gl gc sb so sc ms N 2 c cs, #[], .cells #[.slice none 0 0] 87) := by kernel_rfl
theorem as6_put_2 : sstep Try.prog (as6 Try.prog ga gl gc sb so sc ms N 2 c cs) = some (sx Try.prog (as6 Try.prog ga gl gc sb so sc ms N 2 c cs), #[plE ⟨N + 4, 0, none⟩ true], [(⟨N + 4, 0, none⟩, .slice (some ⟨N + 3, 0, none⟩) 2 2)]) := by kernel_rfl
theorem as6_mute_2 : mute Try.prog 3 (sx Try.prog (as6 Try.prog ga gl gc sb so sc ms N 2 c cs)) = true := by kernel_rfl
theorem as7_new_2 : nstep Try.prog (N + 5) (as7 Try.prog ga gl gc sb so sc ms N 2 c cs) = some (nx Try.prog (N + 5) (as7 Try.prog ga gl gc sb so sc ms N 2 c cs), #[], .cells #[.int .u64 0, .int .u32 0] 126) := by kernel_rfl
theorem as7_mute_2 : mute Try.prog 10 (nx Try.prog (N + 5) (as7 Try.prog ga gl gc sb so sc ms N 2 c cs)) = true := by kernel_rfl
theorem as8_head_2 : as8 Try.prog ga gl gc sb so sc ms N 2 c cs = lpG Try.prog ga gl gc sb so sc ms N 2 c cs 0 x0 (hdT Try.prog) := by kernel_rfl
theorem hd_mute_2_0 : mute Try.prog 13 (lpG Try.prog ga gl gc sb so sc ms N 2 c cs 0 x (hdT Try.prog)) = true := by kernel_rfl
theorem hd_load_2_0 (g : Int) : lstep Try.prog (.int .i64 g) (adv Try.prog 13 (lpG Try.prog ga gl gc sb so sc ms N 2 c cs 0 x (hdT Try.prog))) = some (lq0 Try.prog ga gl gc sb so sc ms N 2 c cs 0 (xl x 0 ⟨sb, so + 0, none⟩ g), #[plE ⟨sb, so + 0, none⟩ false], [⟨sb, so + 0, none⟩]) := by kernel_rfl
theorem hd_mute_2_1 : mute Try.prog 13 (lpG Try.prog ga gl gc sb so sc ms N 2 c cs 1 x (hdT Try.prog)) = true := by kernel_rfl
theorem hd_load_2_1 (g : Int) : lstep Try.prog (.int .i64 g) (adv Try.prog 13 (lpG Try.prog ga gl gc sb so sc ms N 2 c cs 1 x (hdT Try.prog))) = some (lq0 Try.prog ga gl gc sb so sc ms N 2 c cs 1 (xl x 1 ⟨sb, so + 1, none⟩ g), #[plE ⟨sb, so + 1, none⟩ false], [⟨sb, so + 1, none⟩]) := by kernel_rfl
theorem hd_wait_2 : mute Try.prog 10 (lpG Try.prog ga gl gc sb so sc ms N 2 c cs 2 x (hdT Try.prog)) = true := by kernel_rfl
theorem hd_wait'_2 : adv Try.prog 10 (lpG Try.prog ga gl gc sb so sc ms N 2 c cs 2 x (hdT Try.prog)) = wt0 Try.prog (N + 5) (lwF Try.prog ga gl gc sb so sc ms N 2 c cs x) (lpC Try.prog ga gl gc sb so sc ms N 2 c cs) := by kernel_rfl
theorem as4_new_3 : nstep Try.prog (N + 3) (as4 Try.prog ga gl gc sb so sc ms N 3 c cs) = some (as5 Try.prog ga gl gc sb so sc ms N 3 c cs, #[], .cells #[.int .i64 0, .int .i64 0, .int .i64 0, .bool false, .bool false, .int .i64 0, .int .i64 0, .int .i64 0, .bool false, .bool false, .int .i64 0, .int .i64 0, .int .i64 0, .bool false, .bool false] 91) := by kernel_rfl
theorem as5_new_3 : nstep Try.prog (N + 4) (as5 Try.prog ga gl gc sb so sc ms N 3 c cs) = some (as6 Try.prog ga gl gc sb so sc ms N 3 c cs, #[], .cells #[.slice none 0 0] 87) := by kernel_rfl
theorem as6_put_3 : sstep Try.prog (as6 Try.prog ga gl gc sb so sc ms N 3 c cs) = some (sx Try.prog (as6 Try.prog ga gl gc sb so sc ms N 3 c cs), #[plE ⟨N + 4, 0, none⟩ true], [(⟨N + 4, 0, none⟩, .slice (some ⟨N + 3, 0, none⟩) 3 3)]) := by kernel_rfl
theorem as6_mute_3 : mute Try.prog 3 (sx Try.prog (as6 Try.prog ga gl gc sb so sc ms N 3 c cs)) = true := by kernel_rfl
theorem as7_new_3 : nstep Try.prog (N + 5) (as7 Try.prog ga gl gc sb so sc ms N 3 c cs) = some (nx Try.prog (N + 5) (as7 Try.prog ga gl gc sb so sc ms N 3 c cs), #[], .cells #[.int .u64 0, .int .u32 0] 126) := by kernel_rfl
theorem as7_mute_3 : mute Try.prog 10 (nx Try.prog (N + 5) (as7 Try.prog ga gl gc sb so sc ms N 3 c cs)) = true := by kernel_rfl
theorem as8_head_3 : as8 Try.prog ga gl gc sb so sc ms N 3 c cs = lpG Try.prog ga gl gc sb so sc ms N 3 c cs 0 x0 (hdT Try.prog) := by kernel_rfl
theorem hd_mute_3_0 : mute Try.prog 13 (lpG Try.prog ga gl gc sb so sc ms N 3 c cs 0 x (hdT Try.prog)) = true := by kernel_rfl
theorem hd_load_3_0 (g : Int) : lstep Try.prog (.int .i64 g) (adv Try.prog 13 (lpG Try.prog ga gl gc sb so sc ms N 3 c cs 0 x (hdT Try.prog))) = some (lq0 Try.prog ga gl gc sb so sc ms N 3 c cs 0 (xl x 0 ⟨sb, so + 0, none⟩ g), #[plE ⟨sb, so + 0, none⟩ false], [⟨sb, so + 0, none⟩]) := by kernel_rfl
theorem hd_mute_3_1 : mute Try.prog 13 (lpG Try.prog ga gl gc sb so sc ms N 3 c cs 1 x (hdT Try.prog)) = true := by kernel_rfl
theorem hd_load_3_1 (g : Int) : lstep Try.prog (.int .i64 g) (adv Try.prog 13 (lpG Try.prog ga gl gc sb so sc ms N 3 c cs 1 x (hdT Try.prog))) = some (lq0 Try.prog ga gl gc sb so sc ms N 3 c cs 1 (xl x 1 ⟨sb, so + 1, none⟩ g), #[plE ⟨sb, so + 1, none⟩ false], [⟨sb, so + 1, none⟩]) := by kernel_rfl
theorem hd_mute_3_2 : mute Try.prog 13 (lpG Try.prog ga gl gc sb so sc ms N 3 c cs 2 x (hdT Try.prog)) = true := by kernel_rfl
theorem hd_load_3_2 (g : Int) : lstep Try.prog (.int .i64 g) (adv Try.prog 13 (lpG Try.prog ga gl gc sb so sc ms N 3 c cs 2 x (hdT Try.prog))) = some (lq0 Try.prog ga gl gc sb so sc ms N 3 c cs 2 (xl x 2 ⟨sb, so + 2, none⟩ g), #[plE ⟨sb, so + 2, none⟩ false], [⟨sb, so + 2, none⟩]) := by kernel_rfl
theorem hd_wait_3 : mute Try.prog 10 (lpG Try.prog ga gl gc sb so sc ms N 3 c cs 3 x (hdT Try.prog)) = true := by kernel_rfl
theorem hd_wait'_3 : adv Try.prog 10 (lpG Try.prog ga gl gc sb so sc ms N 3 c cs 3 x (hdT Try.prog)) = wt0 Try.prog (N + 5) (lwF Try.prog ga gl gc sb so sc ms N 3 c cs x) (lpC Try.prog ga gl gc sb so sc ms N 3 c cs) := by kernel_rfl
theorem as4_new_4 : nstep Try.prog (N + 3) (as4 Try.prog ga gl gc sb so sc ms N 4 c cs) = some (as5 Try.prog ga gl gc sb so sc ms N 4 c cs, #[], .cells #[.int .i64 0, .int .i64 0, .int .i64 0, .bool false, .bool false, .int .i64 0, .int .i64 0, .int .i64 0, .bool false, .bool false, .int .i64 0, .int .i64 0, .int .i64 0, .bool false, .bool false, .int .i64 0, .int .i64 0, .int .i64 0, .bool false, .bool false] 91) := by kernel_rfl
theorem as5_new_4 : nstep Try.prog (N + 4) (as5 Try.prog ga gl gc sb so sc ms N 4 c cs) = some (as6 Try.prog ga gl gc sb so sc ms N 4 c cs, #[], .cells #[.slice none 0 0] 87) := by kernel_rfl
theorem as6_put_4 : sstep Try.prog (as6 Try.prog ga gl gc sb so sc ms N 4 c cs) = some (sx Try.prog (as6 Try.prog ga gl gc sb so sc ms N 4 c cs), #[plE ⟨N + 4, 0, none⟩ true], [(⟨N + 4, 0, none⟩, .slice (some ⟨N + 3, 0, none⟩) 4 4)]) := by kernel_rfl
theorem as6_mute_4 : mute Try.prog 3 (sx Try.prog (as6 Try.prog ga gl gc sb so sc ms N 4 c cs)) = true := by kernel_rfl
theorem as7_new_4 : nstep Try.prog (N + 5) (as7 Try.prog ga gl gc sb so sc ms N 4 c cs) = some (nx Try.prog (N + 5) (as7 Try.prog ga gl gc sb so sc ms N 4 c cs), #[], .cells #[.int .u64 0, .int .u32 0] 126) := by kernel_rfl
theorem as7_mute_4 : mute Try.prog 10 (nx Try.prog (N + 5) (as7 Try.prog ga gl gc sb so sc ms N 4 c cs)) = true := by kernel_rfl
theorem as8_head_4 : as8 Try.prog ga gl gc sb so sc ms N 4 c cs = lpG Try.prog ga gl gc sb so sc ms N 4 c cs 0 x0 (hdT Try.prog) := by kernel_rfl
theorem hd_mute_4_0 : mute Try.prog 13 (lpG Try.prog ga gl gc sb so sc ms N 4 c cs 0 x (hdT Try.prog)) = true := by kernel_rfl
theorem hd_load_4_0 (g : Int) : lstep Try.prog (.int .i64 g) (adv Try.prog 13 (lpG Try.prog ga gl gc sb so sc ms N 4 c cs 0 x (hdT Try.prog))) = some (lq0 Try.prog ga gl gc sb so sc ms N 4 c cs 0 (xl x 0 ⟨sb, so + 0, none⟩ g), #[plE ⟨sb, so + 0, none⟩ false], [⟨sb, so + 0, none⟩]) := by kernel_rfl
theorem hd_mute_4_1 : mute Try.prog 13 (lpG Try.prog ga gl gc sb so sc ms N 4 c cs 1 x (hdT Try.prog)) = true := by kernel_rfl
theorem hd_load_4_1 (g : Int) : lstep Try.prog (.int .i64 g) (adv Try.prog 13 (lpG Try.prog ga gl gc sb so sc ms N 4 c cs 1 x (hdT Try.prog))) = some (lq0 Try.prog ga gl gc sb so sc ms N 4 c cs 1 (xl x 1 ⟨sb, so + 1, none⟩ g), #[plE ⟨sb, so + 1, none⟩ false], [⟨sb, so + 1, none⟩]) := by kernel_rfl
theorem hd_mute_4_2 : mute Try.prog 13 (lpG Try.prog ga gl gc sb so sc ms N 4 c cs 2 x (hdT Try.prog)) = true := by kernel_rfl
theorem hd_load_4_2 (g : Int) : lstep Try.prog (.int .i64 g) (adv Try.prog 13 (lpG Try.prog ga gl gc sb so sc ms N 4 c cs 2 x (hdT Try.prog))) = some (lq0 Try.prog ga gl gc sb so sc ms N 4 c cs 2 (xl x 2 ⟨sb, so + 2, none⟩ g), #[plE ⟨sb, so + 2, none⟩ false], [⟨sb, so + 2, none⟩]) := by kernel_rfl
theorem hd_mute_4_3 : mute Try.prog 13 (lpG Try.prog ga gl gc sb so sc ms N 4 c cs 3 x (hdT Try.prog)) = true := by kernel_rfl
theorem hd_load_4_3 (g : Int) : lstep Try.prog (.int .i64 g) (adv Try.prog 13 (lpG Try.prog ga gl gc sb so sc ms N 4 c cs 3 x (hdT Try.prog))) = some (lq0 Try.prog ga gl gc sb so sc ms N 4 c cs 3 (xl x 3 ⟨sb, so + 3, none⟩ g), #[plE ⟨sb, so + 3, none⟩ false], [⟨sb, so + 3, none⟩]) := by kernel_rfl
theorem hd_wait_4 : mute Try.prog 10 (lpG Try.prog ga gl gc sb so sc ms N 4 c cs 4 x (hdT Try.prog)) = true := by kernel_rfl
theorem hd_wait'_4 : adv Try.prog 10 (lpG Try.prog ga gl gc sb so sc ms N 4 c cs 4 x (hdT Try.prog)) = wt0 Try.prog (N + 5) (lwF Try.prog ga gl gc sb so sc ms N 4 c cs x) (lpC Try.prog ga gl gc sb so sc ms N 4 c cs) := by kernel_rfl
theorem as4_new_5 : nstep Try.prog (N + 3) (as4 Try.prog ga gl gc sb so sc ms N 5 c cs) = some (as5 Try.prog ga gl gc sb so sc ms N 5 c cs, #[], .cells #[.int .i64 0, .int .i64 0, .int .i64 0, .bool false, .bool false, .int .i64 0, .int .i64 0, .int .i64 0, .bool false, .bool false, .int .i64 0, .int .i64 0, .int .i64 0, .bool false, .bool false, .int .i64 0, .int .i64 0, .int .i64 0, .bool false, .bool false, .int .i64 0, .int .i64 0, .int .i64 0, .bool false, .bool false] 91) := by kernel_rfl
theorem as5_new_5 : nstep Try.prog (N + 4) (as5 Try.prog ga gl gc sb so sc ms N 5 c cs) = some (as6 Try.prog ga gl gc sb so sc ms N 5 c cs, #[], .cells #[.slice none 0 0] 87) := by kernel_rfl
theorem as6_put_5 : sstep Try.prog (as6 Try.prog ga gl gc sb so sc ms N 5 c cs) = some (sx Try.prog (as6 Try.prog ga gl gc sb so sc ms N 5 c cs), #[plE ⟨N + 4, 0, none⟩ true], [(⟨N + 4, 0, none⟩, .slice (some ⟨N + 3, 0, none⟩) 5 5)]) := by kernel_rfl
theorem as6_mute_5 : mute Try.prog 3 (sx Try.prog (as6 Try.prog ga gl gc sb so sc ms N 5 c cs)) = true := by kernel_rfl
theorem as7_new_5 : nstep Try.prog (N + 5) (as7 Try.prog ga gl gc sb so sc ms N 5 c cs) = some (nx Try.prog (N + 5) (as7 Try.prog ga gl gc sb so sc ms N 5 c cs), #[], .cells #[.int .u64 0, .int .u32 0] 126) := by kernel_rfl
theorem as7_mute_5 : mute Try.prog 10 (nx Try.prog (N + 5) (as7 Try.prog ga gl gc sb so sc ms N 5 c cs)) = true := by kernel_rfl
theorem as8_head_5 : as8 Try.prog ga gl gc sb so sc ms N 5 c cs = lpG Try.prog ga gl gc sb so sc ms N 5 c cs 0 x0 (hdT Try.prog) := by kernel_rfl
theorem hd_mute_5_0 : mute Try.prog 13 (lpG Try.prog ga gl gc sb so sc ms N 5 c cs 0 x (hdT Try.prog)) = true := by kernel_rfl
theorem hd_load_5_0 (g : Int) : lstep Try.prog (.int .i64 g) (adv Try.prog 13 (lpG Try.prog ga gl gc sb so sc ms N 5 c cs 0 x (hdT Try.prog))) = some (lq0 Try.prog ga gl gc sb so sc ms N 5 c cs 0 (xl x 0 ⟨sb, so + 0, none⟩ g), #[plE ⟨sb, so + 0, none⟩ false], [⟨sb, so + 0, none⟩]) := by kernel_rfl
theorem hd_mute_5_1 : mute Try.prog 13 (lpG Try.prog ga gl gc sb so sc ms N 5 c cs 1 x (hdT Try.prog)) = true := by kernel_rfl
theorem hd_load_5_1 (g : Int) : lstep Try.prog (.int .i64 g) (adv Try.prog 13 (lpG Try.prog ga gl gc sb so sc ms N 5 c cs 1 x (hdT Try.prog))) = some (lq0 Try.prog ga gl gc sb so sc ms N 5 c cs 1 (xl x 1 ⟨sb, so + 1, none⟩ g), #[plE ⟨sb, so + 1, none⟩ false], [⟨sb, so + 1, none⟩]) := by kernel_rfl
theorem hd_mute_5_2 : mute Try.prog 13 (lpG Try.prog ga gl gc sb so sc ms N 5 c cs 2 x (hdT Try.prog)) = true := by kernel_rfl
theorem hd_load_5_2 (g : Int) : lstep Try.prog (.int .i64 g) (adv Try.prog 13 (lpG Try.prog ga gl gc sb so sc ms N 5 c cs 2 x (hdT Try.prog))) = some (lq0 Try.prog ga gl gc sb so sc ms N 5 c cs 2 (xl x 2 ⟨sb, so + 2, none⟩ g), #[plE ⟨sb, so + 2, none⟩ false], [⟨sb, so + 2, none⟩]) := by kernel_rfl
theorem hd_mute_5_3 : mute Try.prog 13 (lpG Try.prog ga gl gc sb so sc ms N 5 c cs 3 x (hdT Try.prog)) = true := by kernel_rfl
theorem hd_load_5_3 (g : Int) : lstep Try.prog (.int .i64 g) (adv Try.prog 13 (lpG Try.prog ga gl gc sb so sc ms N 5 c cs 3 x (hdT Try.prog))) = some (lq0 Try.prog ga gl gc sb so sc ms N 5 c cs 3 (xl x 3 ⟨sb, so + 3, none⟩ g), #[plE ⟨sb, so + 3, none⟩ false], [⟨sb, so + 3, none⟩]) := by kernel_rfl
theorem hd_mute_5_4 : mute Try.prog 13 (lpG Try.prog ga gl gc sb so sc ms N 5 c cs 4 x (hdT Try.prog)) = true := by kernel_rfl
theorem hd_load_5_4 (g : Int) : lstep Try.prog (.int .i64 g) (adv Try.prog 13 (lpG Try.prog ga gl gc sb so sc ms N 5 c cs 4 x (hdT Try.prog))) = some (lq0 Try.prog ga gl gc sb so sc ms N 5 c cs 4 (xl x 4 ⟨sb, so + 4, none⟩ g), #[plE ⟨sb, so + 4, none⟩ false], [⟨sb, so + 4, none⟩]) := by kernel_rfl
theorem hd_wait_5 : mute Try.prog 10 (lpG Try.prog ga gl gc sb so sc ms N 5 c cs 5 x (hdT Try.prog)) = true := by kernel_rfl
theorem hd_wait'_5 : adv Try.prog 10 (lpG Try.prog ga gl gc sb so sc ms N 5 c cs 5 x (hdT Try.prog)) = wt0 Try.prog (N + 5) (lwF Try.prog ga gl gc sb so sc ms N 5 c cs x) (lpC Try.prog ga gl gc sb so sc ms N 5 c cs) := by kernel_rfl
theorem lq0_new : nstep Try.prog r1 (lq0 Try.prog ga gl gc sb so sc ms N n c cs i x) = some (lq1 Try.prog ga gl gc sb so sc ms N n c cs i x r1, #[], .cells #[.int .i64 0] 3) := by kernel_rfl
theorem lq1_new : nstep Try.prog r2 (lq1 Try.prog ga gl gc sb so sc ms N n c cs i x r1) = some (lq2 Try.prog ga gl gc sb so sc ms N n c cs i x r1 r2, #[], .cells #[.int .i64 0] 3) := by kernel_rfl
theorem lq2_put (y : Nat → Value) (a : Addr) (g : Int) : sstep Try.prog (lq2 Try.prog ga gl gc sb so sc ms N n c cs i (xl y i a g) r1 r2) = some (lq3 Try.prog ga gl gc sb so sc ms N n c cs i (xl y i a g) r1 r2, #[plE ⟨r1, 0, none⟩ true], [(⟨r1, 0, none⟩, .int .i64 i)]) := by kernel_rfl
theorem lq3_put (y : Nat → Value) (a : Addr) (g : Int) : sstep Try.prog (lq3 Try.prog ga gl gc sb so sc ms N n c cs i (xl y i a g) r1 r2) = some (lq4 Try.prog ga gl gc sb so sc ms N n c cs i (xl y i a g) r1 r2, #[plE ⟨r2, 0, none⟩ true], [(⟨r2, 0, none⟩, .int .i64 g)]) := by kernel_rfl
theorem lq4_mute (y : Nat → Value) (a : Addr) (g : Int) : mute Try.prog 4 (lq4 Try.prog ga gl gc sb so sc ms N n c cs i (xl y i a g) r1 r2) = true := by kernel_rfl
theorem lq4_add (y : Nat → Value) (a : Addr) (g : Int) : adv Try.prog 4 (lq4 Try.prog ga gl gc sb so sc ms N n c cs i (xl y i a g) r1 r2) = ad0 Try.prog (N + 5) (laF Try.prog ga gl gc sb so sc ms N n c cs i (xl y i a g) r1 r2) (lpC Try.prog ga gl gc sb so sc ms N n c cs) := by kernel_rfl
theorem lr0_mute (y : Nat → Value) (a : Addr) (g : Int) : mute Try.prog 3 (lr0 Try.prog ga gl gc sb so sc ms N n c cs i (xl y i a g) r1 r2) = true := by kernel_rfl
theorem lr1_go (y : Nat → Value) (a : Addr) (g : Int) : pstep Try.prog (lr1 Try.prog ga gl gc sb so sc ms N n c cs i (xl y i a g) r1 r2) = some (lr2 Try.prog ga gl gc sb so sc ms N n c cs i (xl y i a g) r1 r2, wsG Try.prog (N + 5) (N + 2) r2 (N + 4) r1) := by kernel_rfl
theorem lr2_mute_0 (y : Nat → Value) (a : Addr) (g : Int) : mute Try.prog 7 (lr2 Try.prog ga gl gc sb so sc ms N n c cs 0 (xl y 0 a g) r1 r2) = true := by kernel_rfl
theorem lr2_back_0 (y : Nat → Value) (a : Addr) (g : Int) : adv Try.prog 7 (lr2 Try.prog ga gl gc sb so sc ms N n c cs 0 (xl y 0 a g) r1 r2) = lpG Try.prog ga gl gc sb so sc ms N n c cs 1 (xn (adv Try.prog 7 (lr2 Try.prog ga gl gc sb so sc ms N n c cs 0 (xl y 0 a g) r1 r2))) (hdT Try.prog) := by kernel_rfl
theorem lr2_mute_1 (y : Nat → Value) (a : Addr) (g : Int) : mute Try.prog 7 (lr2 Try.prog ga gl gc sb so sc ms N n c cs 1 (xl y 1 a g) r1 r2) = true := by kernel_rfl
theorem lr2_back_1 (y : Nat → Value) (a : Addr) (g : Int) : adv Try.prog 7 (lr2 Try.prog ga gl gc sb so sc ms N n c cs 1 (xl y 1 a g) r1 r2) = lpG Try.prog ga gl gc sb so sc ms N n c cs 2 (xn (adv Try.prog 7 (lr2 Try.prog ga gl gc sb so sc ms N n c cs 1 (xl y 1 a g) r1 r2))) (hdT Try.prog) := by kernel_rfl
theorem lr2_mute_2 (y : Nat → Value) (a : Addr) (g : Int) : mute Try.prog 7 (lr2 Try.prog ga gl gc sb so sc ms N n c cs 2 (xl y 2 a g) r1 r2) = true := by kernel_rfl
theorem lr2_back_2 (y : Nat → Value) (a : Addr) (g : Int) : adv Try.prog 7 (lr2 Try.prog ga gl gc sb so sc ms N n c cs 2 (xl y 2 a g) r1 r2) = lpG Try.prog ga gl gc sb so sc ms N n c cs 3 (xn (adv Try.prog 7 (lr2 Try.prog ga gl gc sb so sc ms N n c cs 2 (xl y 2 a g) r1 r2))) (hdT Try.prog) := by kernel_rfl
theorem lr2_mute_3 (y : Nat → Value) (a : Addr) (g : Int) : mute Try.prog 7 (lr2 Try.prog ga gl gc sb so sc ms N n c cs 3 (xl y 3 a g) r1 r2) = true := by kernel_rfl
theorem lr2_back_3 (y : Nat → Value) (a : Addr) (g : Int) : adv Try.prog 7 (lr2 Try.prog ga gl gc sb so sc ms N n c cs 3 (xl y 3 a g) r1 r2) = lpG Try.prog ga gl gc sb so sc ms N n c cs 4 (xn (adv Try.prog 7 (lr2 Try.prog ga gl gc sb so sc ms N n c cs 3 (xl y 3 a g) r1 r2))) (hdT Try.prog) := by kernel_rfl
theorem lr2_mute_4 (y : Nat → Value) (a : Addr) (g : Int) : mute Try.prog 7 (lr2 Try.prog ga gl gc sb so sc ms N n c cs 4 (xl y 4 a g) r1 r2) = true := by kernel_rfl
theorem lr2_back_4 (y : Nat → Value) (a : Addr) (g : Int) : adv Try.prog 7 (lr2 Try.prog ga gl gc sb so sc ms N n c cs 4 (xl y 4 a g) r1 r2) = lpG Try.prog ga gl gc sb so sc ms N n c cs 5 (xn (adv Try.prog 7 (lr2 Try.prog ga gl gc sb so sc ms N n c cs 4 (xl y 4 a g) r1 r2))) (hdT Try.prog) := by kernel_rfl
theorem lw0_mute_1 : mute Try.prog 3 (lw0 Try.prog ga gl gc sb so sc ms N 1 c cs x) = true := by kernel_rfl
theorem lw1_load_1 (v : Value) : vst Try.prog v none (lw1 Try.prog ga gl gc sb so sc ms N 1 c cs x) = some ⟨onto (lw1 Try.prog ga gl gc sb so sc ms N 1 c cs x) v, #[plE ⟨N + 4, 0, none⟩ false], [⟨N + 4, 0, none⟩], [], none⟩ := by kernel_rfl
theorem lw1_mute_1 (A l q : Nat) : mute Try.prog 8 (onto (lw1 Try.prog ga gl gc sb so sc ms N 1 c cs x) (.slice (some ⟨A, 0, none⟩) l q)) = true := by kernel_rfl
theorem lw1_ret_1 (A l q : Nat) : adv Try.prog 8 (onto (lw1 Try.prog ga gl gc sb so sc ms N 1 c cs x) (.slice (some ⟨A, 0, none⟩) l q)) = { frame := c.finish (.slice (some ⟨A, 0, none⟩) l q), callers := cs, status := .running, dying := none } := by kernel_rfl
theorem lw0_mute_2 : mute Try.prog 3 (lw0 Try.prog ga gl gc sb so sc ms N 2 c cs x) = true := by kernel_rfl
theorem lw1_load_2 (v : Value) : vst Try.prog v none (lw1 Try.prog ga gl gc sb so sc ms N 2 c cs x) = some ⟨onto (lw1 Try.prog ga gl gc sb so sc ms N 2 c cs x) v, #[plE ⟨N + 4, 0, none⟩ false], [⟨N + 4, 0, none⟩], [], none⟩ := by kernel_rfl
theorem lw1_mute_2 (A l q : Nat) : mute Try.prog 8 (onto (lw1 Try.prog ga gl gc sb so sc ms N 2 c cs x) (.slice (some ⟨A, 0, none⟩) l q)) = true := by kernel_rfl
theorem lw1_ret_2 (A l q : Nat) : adv Try.prog 8 (onto (lw1 Try.prog ga gl gc sb so sc ms N 2 c cs x) (.slice (some ⟨A, 0, none⟩) l q)) = { frame := c.finish (.slice (some ⟨A, 0, none⟩) l q), callers := cs, status := .running, dying := none } := by kernel_rfl
theorem lw0_mute_3 : mute Try.prog 3 (lw0 Try.prog ga gl gc sb so sc ms N 3 c cs x) = true := by kernel_rfl
theorem lw1_load_3 (v : Value) : vst Try.prog v none (lw1 Try.prog ga gl gc sb so sc ms N 3 c cs x) = some ⟨onto (lw1 Try.prog ga gl gc sb so sc ms N 3 c cs x) v, #[plE ⟨N + 4, 0, none⟩ false], [⟨N + 4, 0, none⟩], [], none⟩ := by kernel_rfl
theorem lw1_mute_3 (A l q : Nat) : mute Try.prog 8 (onto (lw1 Try.prog ga gl gc sb so sc ms N 3 c cs x) (.slice (some ⟨A, 0, none⟩) l q)) = true := by kernel_rfl
theorem lw1_ret_3 (A l q : Nat) : adv Try.prog 8 (onto (lw1 Try.prog ga gl gc sb so sc ms N 3 c cs x) (.slice (some ⟨A, 0, none⟩) l q)) = { frame := c.finish (.slice (some ⟨A, 0, none⟩) l q), callers := cs, status := .running, dying := none } := by kernel_rfl
theorem lw0_mute_4 : mute Try.prog 3 (lw0 Try.prog ga gl gc sb so sc ms N 4 c cs x) = true := by kernel_rfl
theorem lw1_load_4 (v : Value) : vst Try.prog v none (lw1 Try.prog ga gl gc sb so sc ms N 4 c cs x) = some ⟨onto (lw1 Try.prog ga gl gc sb so sc ms N 4 c cs x) v, #[plE ⟨N + 4, 0, none⟩ false], [⟨N + 4, 0, none⟩], [], none⟩ := by kernel_rfl
theorem lw1_mute_4 (A l q : Nat) : mute Try.prog 8 (onto (lw1 Try.prog ga gl gc sb so sc ms N 4 c cs x) (.slice (some ⟨A, 0, none⟩) l q)) = true := by kernel_rfl
theorem lw1_ret_4 (A l q : Nat) : adv Try.prog 8 (onto (lw1 Try.prog ga gl gc sb so sc ms N 4 c cs x) (.slice (some ⟨A, 0, none⟩) l q)) = { frame := c.finish (.slice (some ⟨A, 0, none⟩) l q), callers := cs, status := .running, dying := none } := by kernel_rfl
theorem lw0_mute_5 : mute Try.prog 3 (lw0 Try.prog ga gl gc sb so sc ms N 5 c cs x) = true := by kernel_rfl
theorem lw1_load_5 (v : Value) : vst Try.prog v none (lw1 Try.prog ga gl gc sb so sc ms N 5 c cs x) = some ⟨onto (lw1 Try.prog ga gl gc sb so sc ms N 5 c cs x) v, #[plE ⟨N + 4, 0, none⟩ false], [⟨N + 4, 0, none⟩], [], none⟩ := by kernel_rfl
theorem lw1_mute_5 (A l q : Nat) : mute Try.prog 8 (onto (lw1 Try.prog ga gl gc sb so sc ms N 5 c cs x) (.slice (some ⟨A, 0, none⟩) l q)) = true := by kernel_rfl
theorem lw1_ret_5 (A l q : Nat) : adv Try.prog 8 (onto (lw1 Try.prog ga gl gc sb so sc ms N 5 c cs x) (.slice (some ⟨A, 0, none⟩) l q)) = { frame := c.finish (.slice (some ⟨A, 0, none⟩) l q), callers := cs, status := .running, dying := none } := by kernel_rfl
end
section
variable (ga : Addr) (gl gc sb so sc : Nat) (ms : Int) (N n : Nat) (c : Frame) (cs : List Frame) (x : Nat → Value) (r1 r2 : Nat)
theorem as4_new (h1 : 1 ≤ n) (h5 : n ≤ 5) : ∃ z : Array Value, z.size = 5 * n ∧ nstep Try.prog (N + 3) (as4 Try.prog ga gl gc sb so sc ms N n c cs) = some (as5 Try.prog ga gl gc sb so sc ms N n c cs, #[], .cells z 91) := by
  obtain rfl | rfl | rfl | rfl | rfl : n = 1 ∨ n = 2 ∨ n = 3 ∨ n = 4 ∨ n = 5 := by omega
  · exact ⟨_, by rfl, as4_new_1 ga gl gc sb so sc ms N c cs⟩
  · exact ⟨_, by rfl, as4_new_2 ga gl gc sb so sc ms N c cs⟩
  · exact ⟨_, by rfl, as4_new_3 ga gl gc sb so sc ms N c cs⟩
  · exact ⟨_, by rfl, as4_new_4 ga gl gc sb so sc ms N c cs⟩
  · exact ⟨_, by rfl, as4_new_5 ga gl gc sb so sc ms N c cs⟩
theorem as5_new (h1 : 1 ≤ n) (h5 : n ≤ 5) : nstep Try.prog (N + 4) (as5 Try.prog ga gl gc sb so sc ms N n c cs) = some (as6 Try.prog ga gl gc sb so sc ms N n c cs, #[], .cells #[.slice none 0 0] 87) := by
  obtain rfl | rfl | rfl | rfl | rfl : n = 1 ∨ n = 2 ∨ n = 3 ∨ n = 4 ∨ n = 5 := by omega
  · exact as5_new_1 ga gl gc sb so sc ms N c cs
  · exact as5_new_2 ga gl gc sb so sc ms N c cs
  · exact as5_new_3 ga gl gc sb so sc ms N c cs
  · exact as5_new_4 ga gl gc sb so sc ms N c cs
  · exact as5_new_5 ga gl gc sb so sc ms N c cs
theorem as6_put (h1 : 1 ≤ n) (h5 : n ≤ 5) : sstep Try.prog (as6 Try.prog ga gl gc sb so sc ms N n c cs) = some (sx Try.prog (as6 Try.prog ga gl gc sb so sc ms N n c cs), #[plE ⟨N + 4, 0, none⟩ true], [(⟨N + 4, 0, none⟩, .slice (some ⟨N + 3, 0, none⟩) n n)]) := by
  obtain rfl | rfl | rfl | rfl | rfl : n = 1 ∨ n = 2 ∨ n = 3 ∨ n = 4 ∨ n = 5 := by omega
  · exact as6_put_1 ga gl gc sb so sc ms N c cs
  · exact as6_put_2 ga gl gc sb so sc ms N c cs
  · exact as6_put_3 ga gl gc sb so sc ms N c cs
  · exact as6_put_4 ga gl gc sb so sc ms N c cs
  · exact as6_put_5 ga gl gc sb so sc ms N c cs
theorem as6_mute (h1 : 1 ≤ n) (h5 : n ≤ 5) : mute Try.prog 3 (sx Try.prog (as6 Try.prog ga gl gc sb so sc ms N n c cs)) = true := by
  obtain rfl | rfl | rfl | rfl | rfl : n = 1 ∨ n = 2 ∨ n = 3 ∨ n = 4 ∨ n = 5 := by omega
  · exact as6_mute_1 ga gl gc sb so sc ms N c cs
  · exact as6_mute_2 ga gl gc sb so sc ms N c cs
  · exact as6_mute_3 ga gl gc sb so sc ms N c cs
  · exact as6_mute_4 ga gl gc sb so sc ms N c cs
  · exact as6_mute_5 ga gl gc sb so sc ms N c cs
theorem as7_new (h1 : 1 ≤ n) (h5 : n ≤ 5) : nstep Try.prog (N + 5) (as7 Try.prog ga gl gc sb so sc ms N n c cs) = some (nx Try.prog (N + 5) (as7 Try.prog ga gl gc sb so sc ms N n c cs), #[], .cells #[.int .u64 0, .int .u32 0] 126) := by
  obtain rfl | rfl | rfl | rfl | rfl : n = 1 ∨ n = 2 ∨ n = 3 ∨ n = 4 ∨ n = 5 := by omega
  · exact as7_new_1 ga gl gc sb so sc ms N c cs
  · exact as7_new_2 ga gl gc sb so sc ms N c cs
  · exact as7_new_3 ga gl gc sb so sc ms N c cs
  · exact as7_new_4 ga gl gc sb so sc ms N c cs
  · exact as7_new_5 ga gl gc sb so sc ms N c cs
theorem as7_mute (h1 : 1 ≤ n) (h5 : n ≤ 5) : mute Try.prog 10 (nx Try.prog (N + 5) (as7 Try.prog ga gl gc sb so sc ms N n c cs)) = true := by
  obtain rfl | rfl | rfl | rfl | rfl : n = 1 ∨ n = 2 ∨ n = 3 ∨ n = 4 ∨ n = 5 := by omega
  · exact as7_mute_1 ga gl gc sb so sc ms N c cs
  · exact as7_mute_2 ga gl gc sb so sc ms N c cs
  · exact as7_mute_3 ga gl gc sb so sc ms N c cs
  · exact as7_mute_4 ga gl gc sb so sc ms N c cs
  · exact as7_mute_5 ga gl gc sb so sc ms N c cs
theorem as8_head (h1 : 1 ≤ n) (h5 : n ≤ 5) : as8 Try.prog ga gl gc sb so sc ms N n c cs = lpG Try.prog ga gl gc sb so sc ms N n c cs ((0 : Nat) : Int) x0 (hdT Try.prog) := by
  obtain rfl | rfl | rfl | rfl | rfl : n = 1 ∨ n = 2 ∨ n = 3 ∨ n = 4 ∨ n = 5 := by omega
  · exact as8_head_1 ga gl gc sb so sc ms N c cs
  · exact as8_head_2 ga gl gc sb so sc ms N c cs
  · exact as8_head_3 ga gl gc sb so sc ms N c cs
  · exact as8_head_4 ga gl gc sb so sc ms N c cs
  · exact as8_head_5 ga gl gc sb so sc ms N c cs
theorem hd_wait (h1 : 1 ≤ n) (h5 : n ≤ 5) : mute Try.prog 10 (lpG Try.prog ga gl gc sb so sc ms N n c cs n x (hdT Try.prog)) = true := by
  obtain rfl | rfl | rfl | rfl | rfl : n = 1 ∨ n = 2 ∨ n = 3 ∨ n = 4 ∨ n = 5 := by omega
  · exact hd_wait_1 ga gl gc sb so sc ms N c cs x
  · exact hd_wait_2 ga gl gc sb so sc ms N c cs x
  · exact hd_wait_3 ga gl gc sb so sc ms N c cs x
  · exact hd_wait_4 ga gl gc sb so sc ms N c cs x
  · exact hd_wait_5 ga gl gc sb so sc ms N c cs x
theorem hd_wait' (h1 : 1 ≤ n) (h5 : n ≤ 5) : adv Try.prog 10 (lpG Try.prog ga gl gc sb so sc ms N n c cs n x (hdT Try.prog)) = wt0 Try.prog (N + 5) (lwF Try.prog ga gl gc sb so sc ms N n c cs x) (lpC Try.prog ga gl gc sb so sc ms N n c cs) := by
  obtain rfl | rfl | rfl | rfl | rfl : n = 1 ∨ n = 2 ∨ n = 3 ∨ n = 4 ∨ n = 5 := by omega
  · exact hd_wait'_1 ga gl gc sb so sc ms N c cs x
  · exact hd_wait'_2 ga gl gc sb so sc ms N c cs x
  · exact hd_wait'_3 ga gl gc sb so sc ms N c cs x
  · exact hd_wait'_4 ga gl gc sb so sc ms N c cs x
  · exact hd_wait'_5 ga gl gc sb so sc ms N c cs x
theorem lw0_mute (h1 : 1 ≤ n) (h5 : n ≤ 5) : mute Try.prog 3 (lw0 Try.prog ga gl gc sb so sc ms N n c cs x) = true := by
  obtain rfl | rfl | rfl | rfl | rfl : n = 1 ∨ n = 2 ∨ n = 3 ∨ n = 4 ∨ n = 5 := by omega
  · exact lw0_mute_1 ga gl gc sb so sc ms N c cs x
  · exact lw0_mute_2 ga gl gc sb so sc ms N c cs x
  · exact lw0_mute_3 ga gl gc sb so sc ms N c cs x
  · exact lw0_mute_4 ga gl gc sb so sc ms N c cs x
  · exact lw0_mute_5 ga gl gc sb so sc ms N c cs x
theorem lw1_load (h1 : 1 ≤ n) (h5 : n ≤ 5) (v : Value) : vst Try.prog v none (lw1 Try.prog ga gl gc sb so sc ms N n c cs x) = some ⟨onto (lw1 Try.prog ga gl gc sb so sc ms N n c cs x) v, #[plE ⟨N + 4, 0, none⟩ false], [⟨N + 4, 0, none⟩], [], none⟩ := by
  obtain rfl | rfl | rfl | rfl | rfl : n = 1 ∨ n = 2 ∨ n = 3 ∨ n = 4 ∨ n = 5 := by omega
  · exact lw1_load_1 ga gl gc sb so sc ms N c cs x v
  · exact lw1_load_2 ga gl gc sb so sc ms N c cs x v
  · exact lw1_load_3 ga gl gc sb so sc ms N c cs x v
  · exact lw1_load_4 ga gl gc sb so sc ms N c cs x v
  · exact lw1_load_5 ga gl gc sb so sc ms N c cs x v
theorem lw1_mute (h1 : 1 ≤ n) (h5 : n ≤ 5) (A l q : Nat) : mute Try.prog 8 (onto (lw1 Try.prog ga gl gc sb so sc ms N n c cs x) (.slice (some ⟨A, 0, none⟩) l q)) = true := by
  obtain rfl | rfl | rfl | rfl | rfl : n = 1 ∨ n = 2 ∨ n = 3 ∨ n = 4 ∨ n = 5 := by omega
  · exact lw1_mute_1 ga gl gc sb so sc ms N c cs x A l q
  · exact lw1_mute_2 ga gl gc sb so sc ms N c cs x A l q
  · exact lw1_mute_3 ga gl gc sb so sc ms N c cs x A l q
  · exact lw1_mute_4 ga gl gc sb so sc ms N c cs x A l q
  · exact lw1_mute_5 ga gl gc sb so sc ms N c cs x A l q
theorem lw1_ret (h1 : 1 ≤ n) (h5 : n ≤ 5) (A l q : Nat) : adv Try.prog 8 (onto (lw1 Try.prog ga gl gc sb so sc ms N n c cs x) (.slice (some ⟨A, 0, none⟩) l q)) = { frame := c.finish (.slice (some ⟨A, 0, none⟩) l q), callers := cs, status := .running, dying := none } := by
  obtain rfl | rfl | rfl | rfl | rfl : n = 1 ∨ n = 2 ∨ n = 3 ∨ n = 4 ∨ n = 5 := by omega
  · exact lw1_ret_1 ga gl gc sb so sc ms N c cs x A l q
  · exact lw1_ret_2 ga gl gc sb so sc ms N c cs x A l q
  · exact lw1_ret_3 ga gl gc sb so sc ms N c cs x A l q
  · exact lw1_ret_4 ga gl gc sb so sc ms N c cs x A l q
  · exact lw1_ret_5 ga gl gc sb so sc ms N c cs x A l q
theorem hd_mute (i : Nat) (hi : i < n) (h5 : n ≤ 5) : mute Try.prog 13 (lpG Try.prog ga gl gc sb so sc ms N n c cs (i : Nat) x (hdT Try.prog)) = true := by
  obtain rfl | rfl | rfl | rfl | rfl : n = 1 ∨ n = 2 ∨ n = 3 ∨ n = 4 ∨ n = 5 := by omega
  · obtain rfl : i = 0 := by omega
    exact hd_mute_1_0 ga gl gc sb so sc ms N c cs x
  · obtain rfl | rfl : i = 0 ∨ i = 1 := by omega
    · exact hd_mute_2_0 ga gl gc sb so sc ms N c cs x
    · exact hd_mute_2_1 ga gl gc sb so sc ms N c cs x
  · obtain rfl | rfl | rfl : i = 0 ∨ i = 1 ∨ i = 2 := by omega
    · exact hd_mute_3_0 ga gl gc sb so sc ms N c cs x
    · exact hd_mute_3_1 ga gl gc sb so sc ms N c cs x
    · exact hd_mute_3_2 ga gl gc sb so sc ms N c cs x
  · obtain rfl | rfl | rfl | rfl : i = 0 ∨ i = 1 ∨ i = 2 ∨ i = 3 := by omega
    · exact hd_mute_4_0 ga gl gc sb so sc ms N c cs x
    · exact hd_mute_4_1 ga gl gc sb so sc ms N c cs x
    · exact hd_mute_4_2 ga gl gc sb so sc ms N c cs x
    · exact hd_mute_4_3 ga gl gc sb so sc ms N c cs x
  · obtain rfl | rfl | rfl | rfl | rfl : i = 0 ∨ i = 1 ∨ i = 2 ∨ i = 3 ∨ i = 4 := by omega
    · exact hd_mute_5_0 ga gl gc sb so sc ms N c cs x
    · exact hd_mute_5_1 ga gl gc sb so sc ms N c cs x
    · exact hd_mute_5_2 ga gl gc sb so sc ms N c cs x
    · exact hd_mute_5_3 ga gl gc sb so sc ms N c cs x
    · exact hd_mute_5_4 ga gl gc sb so sc ms N c cs x
theorem hd_load (i : Nat) (hi : i < n) (h5 : n ≤ 5) (g : Int) : lstep Try.prog (.int .i64 g) (adv Try.prog 13 (lpG Try.prog ga gl gc sb so sc ms N n c cs (i : Nat) x (hdT Try.prog))) = some (lq0 Try.prog ga gl gc sb so sc ms N n c cs (i : Nat) (xl x (i : Nat) ⟨sb, so + i, none⟩ g), #[plE ⟨sb, so + i, none⟩ false], [⟨sb, so + i, none⟩]) := by
  obtain rfl | rfl | rfl | rfl | rfl : n = 1 ∨ n = 2 ∨ n = 3 ∨ n = 4 ∨ n = 5 := by omega
  · obtain rfl : i = 0 := by omega
    exact hd_load_1_0 ga gl gc sb so sc ms N c cs x g
  · obtain rfl | rfl : i = 0 ∨ i = 1 := by omega
    · exact hd_load_2_0 ga gl gc sb so sc ms N c cs x g
    · exact hd_load_2_1 ga gl gc sb so sc ms N c cs x g
  · obtain rfl | rfl | rfl : i = 0 ∨ i = 1 ∨ i = 2 := by omega
    · exact hd_load_3_0 ga gl gc sb so sc ms N c cs x g
    · exact hd_load_3_1 ga gl gc sb so sc ms N c cs x g
    · exact hd_load_3_2 ga gl gc sb so sc ms N c cs x g
  · obtain rfl | rfl | rfl | rfl : i = 0 ∨ i = 1 ∨ i = 2 ∨ i = 3 := by omega
    · exact hd_load_4_0 ga gl gc sb so sc ms N c cs x g
    · exact hd_load_4_1 ga gl gc sb so sc ms N c cs x g
    · exact hd_load_4_2 ga gl gc sb so sc ms N c cs x g
    · exact hd_load_4_3 ga gl gc sb so sc ms N c cs x g
  · obtain rfl | rfl | rfl | rfl | rfl : i = 0 ∨ i = 1 ∨ i = 2 ∨ i = 3 ∨ i = 4 := by omega
    · exact hd_load_5_0 ga gl gc sb so sc ms N c cs x g
    · exact hd_load_5_1 ga gl gc sb so sc ms N c cs x g
    · exact hd_load_5_2 ga gl gc sb so sc ms N c cs x g
    · exact hd_load_5_3 ga gl gc sb so sc ms N c cs x g
    · exact hd_load_5_4 ga gl gc sb so sc ms N c cs x g
theorem lr2_mute (i : Nat) (hi : i < 5) (y : Nat → Value) (a : Addr) (g : Int) : mute Try.prog 7 (lr2 Try.prog ga gl gc sb so sc ms N n c cs (i : Nat) (xl y (i : Nat) a g) r1 r2) = true := by
  obtain rfl | rfl | rfl | rfl | rfl : i = 0 ∨ i = 1 ∨ i = 2 ∨ i = 3 ∨ i = 4 := by omega
  · exact lr2_mute_0 ga gl gc sb so sc ms N n c cs r1 r2 y a g
  · exact lr2_mute_1 ga gl gc sb so sc ms N n c cs r1 r2 y a g
  · exact lr2_mute_2 ga gl gc sb so sc ms N n c cs r1 r2 y a g
  · exact lr2_mute_3 ga gl gc sb so sc ms N n c cs r1 r2 y a g
  · exact lr2_mute_4 ga gl gc sb so sc ms N n c cs r1 r2 y a g
theorem lr2_back (i : Nat) (hi : i < 5) (y : Nat → Value) (a : Addr) (g : Int) : ∃ x', adv Try.prog 7 (lr2 Try.prog ga gl gc sb so sc ms N n c cs (i : Nat) (xl y (i : Nat) a g) r1 r2) = lpG Try.prog ga gl gc sb so sc ms N n c cs ((i + 1 : Nat) : Int) x' (hdT Try.prog) := by
  obtain rfl | rfl | rfl | rfl | rfl : i = 0 ∨ i = 1 ∨ i = 2 ∨ i = 3 ∨ i = 4 := by omega
  · exact ⟨_, lr2_back_0 ga gl gc sb so sc ms N n c cs r1 r2 y a g⟩
  · exact ⟨_, lr2_back_1 ga gl gc sb so sc ms N n c cs r1 r2 y a g⟩
  · exact ⟨_, lr2_back_2 ga gl gc sb so sc ms N n c cs r1 r2 y a g⟩
  · exact ⟨_, lr2_back_3 ga gl gc sb so sc ms N n c cs r1 r2 y a g⟩
  · exact ⟨_, lr2_back_4 ga gl gc sb so sc ms N n c cs r1 r2 y a g⟩
end
end Go.Proofs.Ytjklkppncmhehaa.Sr
