/-
What is proved: the steps of a worker's region, reckoned by the kernel. No condition.
-/
import Derived.Test.YtjklkppncmhehaaSf07
import Derived.Test.YtjklkppncmhehaaSf08
set_option linter.unusedVariables false
set_option linter.unusedSimpArgs false
namespace Go.Proofs.Ytjklkppncmhehaa.Sr
open Go Go.Conc
def ops82 (P : Program) : Array Oper := match P.funcs[82]? with
  | some fn => match fn.body with
    | some (Code.seq _ (Code.region _ ops _)) => ops
    | _ => #[]
  | none => #[]
def ptr (b : Nat) : Value := .pointer (some ⟨b, 0, none⟩)
def wrF (P : Program) (wg qb gb ab ib : Nat) (x5 x6 x7 x8 x9 x10 : Value) (l : List Nat) : Frame :=
  { fn := 82, tmps := #[ptr wg, ptr qb, ptr gb, ptr ab, ptr ib, x5, x6, x7, x8, x9, x10], todo := [.inRegion (ops82 P) l],
    defers := [{ target := .fn (.func 83) #[], args := #[ptr wg] }], mode := .run, kind := .deferred }
def wrG (P : Program) (wg qb gb ab ib : Nat) (x5 x6 x7 x8 x9 x10 : Value) (l : List Nat) : Goroutine := { frame := wrF P wg qb gb ab ib x5 x6 x7 x8 x9 x10 l, callers := [botF P], status := .running, dying := none }
def wsG (P : Program) (wg qb gb ab ib : Nat) : Goroutine :=
  { frame := { (default : Frame) with fn := P.funcs.size, defers := [{ target := .fn (.func 82) #[ptr wg, ptr qb, ptr gb, ptr ab, ptr ib], args := #[] }], mode := .panicking [goexitEntry] },
    callers := [], status := .running, dying := none }
abbrev plE (a : Addr) (wr : Bool) : Event := ⟨.cell a, wr, false⟩
def wdG (P : Program) (wg qb gb ab ib : Nat) : Goroutine :=
  { frame := { fn := 82, tmps := #[ptr wg, ptr qb, ptr gb, ptr ab, ptr ib, undef, undef, undef, undef, undef, undef], todo := [.code (.region 1 (ops82 P) true)], defers := [{ target := .fn (.func 83) #[], args := #[ptr wg] }], mode := .run, kind := .deferred }, callers := [botF P], status := .running, dying := none }
/-- An answer: the entry's message, time, group and mark, and whether it is known. -/
structure AnsV where
  m : Int
  t : Int
  g : Int
  f : Bool
  k : Bool
def AnsV.cell (a : AnsV) : Nat → Value
  | 0 => .int .i64 a.m
  | 1 => .int .i64 a.t
  | 2 => .int .i64 a.g
  | 3 => .bool a.f
  | _ => .bool a.k
def AnsV.val (a : AnsV) : Value := .agg #[.int .i64 a.m, .int .i64 a.t, .int .i64 a.g, .bool a.f, .bool a.k]
section
variable (wg qb gb ab ib : Nat) (x5 x6 x7 x8 x9 x10 v : Value) (l : List Nat)
set_option maxRecDepth 100000
theorem wr_start : mute Try.prog 5 (wsG Try.prog wg qb gb ab ib) = true := by kernel_rfl
theorem wr_draw : adv Try.prog 5 (wsG Try.prog wg qb gb ab ib) = wdG Try.prog wg qb gb ab ib := by kernel_rfl
theorem wr_departs : Region.departs (ops82 Try.prog) = false := by kernel_rfl
theorem wr_ready (b0 b1 b2 b3 b4 b5 b6 : Bool) : (Region.ready .any (ops82 Try.prog) #[b0, b1, b2, b3, b4, b5, b6]).isEmpty = (b0 && b1 && b2 && b3 && b4 && b5 && b6) := by
  cases b0 <;> cases b1 <;> cases b2 <;> cases b3 <;> cases b4 <;> cases b5 <;> cases b6 <;> kernel_rfl
theorem wr_deps : (ops82 Try.prog)[4]?.map (·.after.toList.map (·.on)) = some [2, 3] ∧ (ops82 Try.prog)[5]?.map (·.after.toList.map (·.on)) = some [0, 1, 0, 1, 2, 3, 4] ∧ (ops82 Try.prog)[6]?.map (·.after.toList.map (·.on)) = some [5, 4, 4, 0, 1, 2, 3, 4] ∧ (ops82 Try.prog).all (·.after.all (Region.binds .any ·)) = true := by
  exact ⟨by kernel_rfl, by kernel_rfl, by kernel_rfl, by kernel_rfl⟩
theorem wr_size : (ops82 Try.prog).size = 7 := by kernel_rfl
theorem wr_0 : vst Try.prog v none (wrG Try.prog wg qb gb ab ib x5 x6 x7 x8 x9 x10 (0 :: l)) = some ⟨wrG Try.prog wg qb gb ab ib v x6 x7 x8 x9 x10 l, #[plE ⟨ab, 0, none⟩ false], [⟨ab, 0, none⟩], [], none⟩ := by kernel_rfl
theorem wr_1 : vst Try.prog v none (wrG Try.prog wg qb gb ab ib x5 x6 x7 x8 x9 x10 (1 :: l)) = some ⟨wrG Try.prog wg qb gb ab ib x5 v x7 x8 x9 x10 l, #[plE ⟨ib, 0, none⟩ false], [⟨ib, 0, none⟩], [], none⟩ := by kernel_rfl
theorem wr_2 : vst Try.prog v none (wrG Try.prog wg qb gb ab ib x5 x6 x7 x8 x9 x10 (2 :: l)) = some ⟨wrG Try.prog wg qb gb ab ib x5 x6 v x8 x9 x10 l, #[plE ⟨qb, 0, none⟩ false], [⟨qb, 0, none⟩], [], none⟩ := by kernel_rfl
theorem wr_3 : vst Try.prog v none (wrG Try.prog wg qb gb ab ib x5 x6 x7 x8 x9 x10 (3 :: l)) = some ⟨wrG Try.prog wg qb gb ab ib x5 x6 x7 v x9 x10 l, #[plE ⟨gb, 0, none⟩ false], [⟨gb, 0, none⟩], [], none⟩ := by kernel_rfl
theorem wr_4 (gs ms : Nat) : qst Try.prog (wrG Try.prog wg qb gb ab ib x5 x6 (.func (.func 70) #[] #[ptr gs, ptr ms]) x8 x9 x10 (4 :: l)) =
    some ({ frame := Frame.enter Try.prog 70 #[x8, ptr gs, ptr ms] .normal, callers := [wrF Try.prog wg qb gb ab ib x5 x6 (.func (.func 70) #[] #[ptr gs, ptr ms]) x8 x9 x10 (4 :: l), botF Try.prog], status := .running, dying := none }, #[]) := by kernel_rfl
theorem wr_5_1_0 (A : Nat) : qst Try.prog (wrG Try.prog wg qb gb ab ib (.slice (some ⟨A, 0, none⟩) 1 1) (.int .i64 0) x7 x8 x9 x10 (5 :: l)) = some (wrG Try.prog wg qb gb ab ib (.slice (some ⟨A, 0, none⟩) 1 1) (.int .i64 0) x7 x8 x9 (.pointer (some ⟨A, 0, none⟩)) l, #[]) := by kernel_rfl
theorem wr_5_2_0 (A : Nat) : qst Try.prog (wrG Try.prog wg qb gb ab ib (.slice (some ⟨A, 0, none⟩) 2 2) (.int .i64 0) x7 x8 x9 x10 (5 :: l)) = some (wrG Try.prog wg qb gb ab ib (.slice (some ⟨A, 0, none⟩) 2 2) (.int .i64 0) x7 x8 x9 (.pointer (some ⟨A, 0, none⟩)) l, #[]) := by kernel_rfl
theorem wr_5_2_1 (A : Nat) : qst Try.prog (wrG Try.prog wg qb gb ab ib (.slice (some ⟨A, 0, none⟩) 2 2) (.int .i64 1) x7 x8 x9 x10 (5 :: l)) = some (wrG Try.prog wg qb gb ab ib (.slice (some ⟨A, 0, none⟩) 2 2) (.int .i64 1) x7 x8 x9 (.pointer (some ⟨A, 5, none⟩)) l, #[]) := by kernel_rfl
theorem wr_5_3_0 (A : Nat) : qst Try.prog (wrG Try.prog wg qb gb ab ib (.slice (some ⟨A, 0, none⟩) 3 3) (.int .i64 0) x7 x8 x9 x10 (5 :: l)) = some (wrG Try.prog wg qb gb ab ib (.slice (some ⟨A, 0, none⟩) 3 3) (.int .i64 0) x7 x8 x9 (.pointer (some ⟨A, 0, none⟩)) l, #[]) := by kernel_rfl
theorem wr_5_3_1 (A : Nat) : qst Try.prog (wrG Try.prog wg qb gb ab ib (.slice (some ⟨A, 0, none⟩) 3 3) (.int .i64 1) x7 x8 x9 x10 (5 :: l)) = some (wrG Try.prog wg qb gb ab ib (.slice (some ⟨A, 0, none⟩) 3 3) (.int .i64 1) x7 x8 x9 (.pointer (some ⟨A, 5, none⟩)) l, #[]) := by kernel_rfl
theorem wr_5_3_2 (A : Nat) : qst Try.prog (wrG Try.prog wg qb gb ab ib (.slice (some ⟨A, 0, none⟩) 3 3) (.int .i64 2) x7 x8 x9 x10 (5 :: l)) = some (wrG Try.prog wg qb gb ab ib (.slice (some ⟨A, 0, none⟩) 3 3) (.int .i64 2) x7 x8 x9 (.pointer (some ⟨A, 10, none⟩)) l, #[]) := by kernel_rfl
theorem wr_5_4_0 (A : Nat) : qst Try.prog (wrG Try.prog wg qb gb ab ib (.slice (some ⟨A, 0, none⟩) 4 4) (.int .i64 0) x7 x8 x9 x10 (5 :: l)) = some (wrG Try.prog wg qb gb ab ib (.slice (some ⟨A, 0, none⟩) 4 4) (.int .i64 0) x7 x8 x9 (.pointer (some ⟨A, 0, none⟩)) l, #[]) := by kernel_rfl
theorem wr_5_4_1 (A : Nat) : qst Try.prog (wrG Try.prog wg qb gb ab ib (.slice (some ⟨A, 0, none⟩) 4 4) (.int .i64 1) x7 x8 x9 x10 (5 :: l)) = some (wrG Try.prog wg qb gb ab ib (.slice (some ⟨A, 0, none⟩) 4 4) (.int .i64 1) x7 x8 x9 (.pointer (some ⟨A, 5, none⟩)) l, #[]) := by kernel_rfl
theorem wr_5_4_2 (A : Nat) : qst Try.prog (wrG Try.prog wg qb gb ab ib (.slice (some ⟨A, 0, none⟩) 4 4) (.int .i64 2) x7 x8 x9 x10 (5 :: l)) = some (wrG Try.prog wg qb gb ab ib (.slice (some ⟨A, 0, none⟩) 4 4) (.int .i64 2) x7 x8 x9 (.pointer (some ⟨A, 10, none⟩)) l, #[]) := by kernel_rfl
theorem wr_5_4_3 (A : Nat) : qst Try.prog (wrG Try.prog wg qb gb ab ib (.slice (some ⟨A, 0, none⟩) 4 4) (.int .i64 3) x7 x8 x9 x10 (5 :: l)) = some (wrG Try.prog wg qb gb ab ib (.slice (some ⟨A, 0, none⟩) 4 4) (.int .i64 3) x7 x8 x9 (.pointer (some ⟨A, 15, none⟩)) l, #[]) := by kernel_rfl
theorem wr_5_5_0 (A : Nat) : qst Try.prog (wrG Try.prog wg qb gb ab ib (.slice (some ⟨A, 0, none⟩) 5 5) (.int .i64 0) x7 x8 x9 x10 (5 :: l)) = some (wrG Try.prog wg qb gb ab ib (.slice (some ⟨A, 0, none⟩) 5 5) (.int .i64 0) x7 x8 x9 (.pointer (some ⟨A, 0, none⟩)) l, #[]) := by kernel_rfl
theorem wr_5_5_1 (A : Nat) : qst Try.prog (wrG Try.prog wg qb gb ab ib (.slice (some ⟨A, 0, none⟩) 5 5) (.int .i64 1) x7 x8 x9 x10 (5 :: l)) = some (wrG Try.prog wg qb gb ab ib (.slice (some ⟨A, 0, none⟩) 5 5) (.int .i64 1) x7 x8 x9 (.pointer (some ⟨A, 5, none⟩)) l, #[]) := by kernel_rfl
theorem wr_5_5_2 (A : Nat) : qst Try.prog (wrG Try.prog wg qb gb ab ib (.slice (some ⟨A, 0, none⟩) 5 5) (.int .i64 2) x7 x8 x9 x10 (5 :: l)) = some (wrG Try.prog wg qb gb ab ib (.slice (some ⟨A, 0, none⟩) 5 5) (.int .i64 2) x7 x8 x9 (.pointer (some ⟨A, 10, none⟩)) l, #[]) := by kernel_rfl
theorem wr_5_5_3 (A : Nat) : qst Try.prog (wrG Try.prog wg qb gb ab ib (.slice (some ⟨A, 0, none⟩) 5 5) (.int .i64 3) x7 x8 x9 x10 (5 :: l)) = some (wrG Try.prog wg qb gb ab ib (.slice (some ⟨A, 0, none⟩) 5 5) (.int .i64 3) x7 x8 x9 (.pointer (some ⟨A, 15, none⟩)) l, #[]) := by kernel_rfl
theorem wr_5_5_4 (A : Nat) : qst Try.prog (wrG Try.prog wg qb gb ab ib (.slice (some ⟨A, 0, none⟩) 5 5) (.int .i64 4) x7 x8 x9 x10 (5 :: l)) = some (wrG Try.prog wg qb gb ab ib (.slice (some ⟨A, 0, none⟩) 5 5) (.int .i64 4) x7 x8 x9 (.pointer (some ⟨A, 20, none⟩)) l, #[]) := by kernel_rfl
theorem wr_6 (A o : Nat) (a : AnsV) : sstep Try.prog (wrG Try.prog wg qb gb ab ib x5 x6 x7 x8 a.val (.pointer (some ⟨A, o, none⟩)) (6 :: l)) = some (wrG Try.prog wg qb gb ab ib x5 x6 x7 x8 a.val (.pointer (some ⟨A, o, none⟩)) l,
    #[plE ⟨A, o, none⟩ true, plE ⟨A, o + 1, none⟩ true, plE ⟨A, o + 2, none⟩ true, plE ⟨A, o + 3, none⟩ true, plE ⟨A, o + 4, none⟩ true],
    [(⟨A, o, none⟩, a.cell 0), (⟨A, o + 1, none⟩, a.cell 1), (⟨A, o + 2, none⟩, a.cell 2), (⟨A, o + 3, none⟩, a.cell 3), (⟨A, o + 4, none⟩, a.cell 4)]) := by kernel_rfl
theorem wr_end : mute Try.prog 1 (wrG Try.prog wg qb gb ab ib x5 x6 x7 x8 x9 x10 []) = true := by kernel_rfl
theorem wr_end' : adv Try.prog 1 (wrG Try.prog wg qb gb ab ib x5 x6 x7 x8 x9 x10 []) = wk0 Try.prog wg #[ptr wg, ptr qb, ptr gb, ptr ab, ptr ib, x5, x6, x7, x8, x9, x10] := by kernel_rfl
end
end Go.Proofs.Ytjklkppncmhehaa.Sr
