/-
  What is proved: the facts of the tables and of the functions at a second program: impl.entriesOf's body is another there: it escapes, or asks one group after the other. No condition.
-/
import Derived.Test.YtjklkppncmhehaaProg
import Derived.KernelRfl
set_option linter.unusedVariables false
set_option linter.unusedSimpArgs false
namespace Go.Proofs.Ytjklkppncmhehaa.Tw
open Go

/-- Whatever asks for entries: it escapes with its arguments, or asks one group after the other. -/
noncomputable def fAsk : Func := { name := "twin.ask", origin := "", params := #[24, 52, 3], resultTypes := #[87], nfree := 0, ntmps := 7, results := #[.tmp 6], norace := false, tmpNames := #[], body := some (.seq (.region 0 #[{ dst := some 3, op := .move (.const (.bool true)), type := 0, pos := "", after := #[], guard := none }, { dst := some 3, op := .move (.const (.bool false)), type := 0, pos := "", after := #[], guard := none }] true)
  (.seq (.cond (.tmp 3) (.region 1 #[{ dst := some 4, op := .makeFunc (.func 51) #[.tmp 0, .tmp 1, .tmp 2] #[], type := 0, pos := "", after := #[], guard := none },
      { dst := some 5, op := .makeInterface 110 (.tmp 4), type := 0, pos := "", after := #[], guard := none }, { dst := none, op := .panic (.tmp 5), type := 0, pos := "", after := #[], guard := none }] false) .skip)
  (.seq (.region 2 #[{ dst := some 6, op := .call { callee := .value (.func 138), args := #[.tmp 0, .tmp 1, .tmp 2], argTypes := #[24, 52, 3] }, type := 0, pos := "", after := #[], guard := none }] false) .ret))) }
/-- One group after the other. -/
noncomputable def fSeq : Func := { name := "twin.seq", origin := "", params := #[24, 52, 3], resultTypes := #[87], nfree := 0, ntmps := 14, results := #[.tmp 7], norace := false, tmpNames := #[], body := some (.seq (.region 0 #[{ dst := some 3, op := .box 24 (.tmp 0), type := 0, pos := "", after := #[], guard := none }, { dst := some 4, op := .box 3 (.tmp 2), type := 0, pos := "", after := #[], guard := none },
      { dst := some 5, op := .makeFunc (.func 70) #[] #[.tmp 3, .tmp 4], type := 110, pos := "", after := #[], guard := none },
      { dst := some 6, op := .call { callee := .builtin .len, args := #[.tmp 1], argTypes := #[52] }, type := 3, pos := "", after := #[], guard := none },
      { dst := some 7, op := .makeSlice 87 (.tmp 6) (.tmp 6), type := 87, pos := "", after := #[], guard := none },
      { dst := some 8, op := .move (.const (.int .i64 0)), type := 3, pos := "", after := #[], guard := none }] false)
  (.seq (.block 0 (.loop (.seq (.region 1 #[{ dst := some 9, op := .binOp .lss 3 (.tmp 8) (.tmp 6) 3, type := 0, pos := "", after := #[], guard := none }] false)
    (.seq (.cond (.tmp 9) .skip (.exit 0))
    (.seq (.region 2 #[{ dst := some 10, op := .indexAddr 52 (.tmp 1) (.tmp 8), type := 0, pos := "", after := #[], guard := none }, { dst := some 11, op := .load 3 (.tmp 10), type := 3, pos := "", after := #[], guard := none },
      { dst := some 12, op := .call { callee := .value (.tmp 5), args := #[.tmp 11], argTypes := #[3] }, type := 91, pos := "", after := #[], guard := none }] false)
    (.region 3 #[{ dst := some 13, op := .indexAddr 87 (.tmp 7) (.tmp 8), type := 0, pos := "", after := #[], guard := none }, { dst := none, op := .store 91 (.tmp 13) (.tmp 12), type := 0, pos := "", after := #[], guard := none },
      { dst := some 8, op := .binOp .add 3 (.tmp 8) (.const (.int .i64 1)) 3, type := 3, pos := "", after := #[], guard := none }] false))))))
  .ret)) }
noncomputable def funcs : Array Func := (Try.funcs.setIfInBounds 51 fAsk).push fSeq
noncomputable def prog : Program := { toTables := Try.progTables, funcs := funcs }
abbrev seqId : FuncId := 138
theorem funcAsk : prog.funcs[51]? = some fAsk := by kernel_rfl
theorem funcSeq : prog.funcs[138]? = some fSeq := by kernel_rfl
@[simp] theorem callSeq : ∀ (args : Array Go.Value) (w : Go.World), Go.Sem.run prog (Go.callFunc 138 args) w = Go.Result.ok (Go.Next.enter 138 args) w := by intros; kernel_rfl
theorem ntmpsAsk : fAsk.ntmps = 7 := rfl
theorem ntmpsSeq : fSeq.ntmps = 14 := rfl
/-- The functions that are borne: what the laws and the question reach. -/
def goodList : List Nat := [3, 4, 5, 6, 7, 8, 9, 10, 11, 12, 13, 14, 15, 16, 17, 18, 19, 20, 21, 22, 23, 24, 25, 26, 27, 28, 29, 30, 31, 32, 33, 34, 35, 36, 37, 38, 39, 40, 41, 42, 43, 44, 45, 46, 47, 48, 49, 50, 51, 52, 53, 54, 55, 56, 57, 58, 59, 60, 61, 62, 63, 64, 65, 66, 67, 68, 70, 71, 72, 73, 74, 75, 76, 77, 78, 79, 80, 85, 86, 87, 88, 89, 90, 91, 110, 111, 112, 113, 119, 120]
@[simp] theorem call2 : ∀ (args : Array Go.Value) (w : Go.World), Go.Sem.run prog (Go.callFunc 2 args) w = Go.Result.ok (Go.Next.enter 2 args) w := by intros; kernel_rfl
@[simp] theorem call3 : ∀ (args : Array Go.Value) (w : Go.World), Go.Sem.run prog (Go.callFunc 3 args) w = Go.Result.ok (Go.Next.enter 3 args) w := by intros; kernel_rfl
@[simp] theorem call4 : ∀ (args : Array Go.Value) (w : Go.World), Go.Sem.run prog (Go.callFunc 4 args) w = Go.Result.ok (Go.Next.enter 4 args) w := by intros; kernel_rfl
@[simp] theorem call5 : ∀ (args : Array Go.Value) (w : Go.World), Go.Sem.run prog (Go.callFunc 5 args) w = Go.Result.ok (Go.Next.enter 5 args) w := by intros; kernel_rfl
@[simp] theorem call6 : ∀ (args : Array Go.Value) (w : Go.World), Go.Sem.run prog (Go.callFunc 6 args) w = Go.Result.ok (Go.Next.enter 6 args) w := by intros; kernel_rfl
@[simp] theorem call7 : ∀ (args : Array Go.Value) (w : Go.World), Go.Sem.run prog (Go.callFunc 7 args) w = Go.Result.ok (Go.Next.enter 7 args) w := by intros; kernel_rfl
@[simp] theorem call8 : ∀ (args : Array Go.Value) (w : Go.World), Go.Sem.run prog (Go.callFunc 8 args) w = Go.Result.ok (Go.Next.enter 8 args) w := by intros; kernel_rfl
@[simp] theorem call9 : ∀ (args : Array Go.Value) (w : Go.World), Go.Sem.run prog (Go.callFunc 9 args) w = Go.Result.ok (Go.Next.enter 9 args) w := by intros; kernel_rfl
@[simp] theorem call10 : ∀ (args : Array Go.Value) (w : Go.World), Go.Sem.run prog (Go.callFunc 10 args) w = Go.Result.ok (Go.Next.enter 10 args) w := by intros; kernel_rfl
@[simp] theorem call11 : ∀ (args : Array Go.Value) (w : Go.World), Go.Sem.run prog (Go.callFunc 11 args) w = Go.Result.ok (Go.Next.enter 11 args) w := by intros; kernel_rfl
@[simp] theorem call12 : ∀ (args : Array Go.Value) (w : Go.World), Go.Sem.run prog (Go.callFunc 12 args) w = Go.Result.ok (Go.Next.enter 12 args) w := by intros; kernel_rfl
@[simp] theorem call13 : ∀ (args : Array Go.Value) (w : Go.World), Go.Sem.run prog (Go.callFunc 13 args) w = Go.Result.ok (Go.Next.enter 13 args) w := by intros; kernel_rfl
@[simp] theorem call14 : ∀ (args : Array Go.Value) (w : Go.World), Go.Sem.run prog (Go.callFunc 14 args) w = Go.Result.ok (Go.Next.enter 14 args) w := by intros; kernel_rfl
@[simp] theorem call15 : ∀ (args : Array Go.Value) (w : Go.World), Go.Sem.run prog (Go.callFunc 15 args) w = Go.Result.ok (Go.Next.enter 15 args) w := by intros; kernel_rfl
@[simp] theorem call16 : ∀ (args : Array Go.Value) (w : Go.World), Go.Sem.run prog (Go.callFunc 16 args) w = Go.Result.ok (Go.Next.enter 16 args) w := by intros; kernel_rfl
@[simp] theorem call17 : ∀ (args : Array Go.Value) (w : Go.World), Go.Sem.run prog (Go.callFunc 17 args) w = Go.Result.ok (Go.Next.enter 17 args) w := by intros; kernel_rfl
@[simp] theorem call18 : ∀ (args : Array Go.Value) (w : Go.World), Go.Sem.run prog (Go.callFunc 18 args) w = Go.Result.ok (Go.Next.enter 18 args) w := by intros; kernel_rfl
@[simp] theorem call19 : ∀ (args : Array Go.Value) (w : Go.World), Go.Sem.run prog (Go.callFunc 19 args) w = Go.Result.ok (Go.Next.enter 19 args) w := by intros; kernel_rfl
@[simp] theorem call20 : ∀ (args : Array Go.Value) (w : Go.World), Go.Sem.run prog (Go.callFunc 20 args) w = Go.Result.ok (Go.Next.enter 20 args) w := by intros; kernel_rfl
@[simp] theorem call21 : ∀ (args : Array Go.Value) (w : Go.World), Go.Sem.run prog (Go.callFunc 21 args) w = Go.Result.ok (Go.Next.enter 21 args) w := by intros; kernel_rfl
@[simp] theorem call22 : ∀ (args : Array Go.Value) (w : Go.World), Go.Sem.run prog (Go.callFunc 22 args) w = Go.Result.ok (Go.Next.enter 22 args) w := by intros; kernel_rfl
@[simp] theorem call23 : ∀ (args : Array Go.Value) (w : Go.World), Go.Sem.run prog (Go.callFunc 23 args) w = Go.Result.ok (Go.Next.enter 23 args) w := by intros; kernel_rfl
@[simp] theorem call24 : ∀ (args : Array Go.Value) (w : Go.World), Go.Sem.run prog (Go.callFunc 24 args) w = Go.Result.ok (Go.Next.enter 24 args) w := by intros; kernel_rfl
@[simp] theorem call25 : ∀ (args : Array Go.Value) (w : Go.World), Go.Sem.run prog (Go.callFunc 25 args) w = Go.Result.ok (Go.Next.enter 25 args) w := by intros; kernel_rfl
@[simp] theorem call26 : ∀ (args : Array Go.Value) (w : Go.World), Go.Sem.run prog (Go.callFunc 26 args) w = Go.Result.ok (Go.Next.enter 26 args) w := by intros; kernel_rfl
@[simp] theorem call27 : ∀ (args : Array Go.Value) (w : Go.World), Go.Sem.run prog (Go.callFunc 27 args) w = Go.Result.ok (Go.Next.enter 27 args) w := by intros; kernel_rfl
@[simp] theorem call28 : ∀ (args : Array Go.Value) (w : Go.World), Go.Sem.run prog (Go.callFunc 28 args) w = Go.Result.ok (Go.Next.enter 28 args) w := by intros; kernel_rfl
@[simp] theorem call29 : ∀ (args : Array Go.Value) (w : Go.World), Go.Sem.run prog (Go.callFunc 29 args) w = Go.Result.ok (Go.Next.enter 29 args) w := by intros; kernel_rfl
@[simp] theorem call30 : ∀ (args : Array Go.Value) (w : Go.World), Go.Sem.run prog (Go.callFunc 30 args) w = Go.Result.ok (Go.Next.enter 30 args) w := by intros; kernel_rfl
@[simp] theorem call31 : ∀ (args : Array Go.Value) (w : Go.World), Go.Sem.run prog (Go.callFunc 31 args) w = Go.Result.ok (Go.Next.enter 31 args) w := by intros; kernel_rfl
@[simp] theorem call32 : ∀ (args : Array Go.Value) (w : Go.World), Go.Sem.run prog (Go.callFunc 32 args) w = Go.Result.ok (Go.Next.enter 32 args) w := by intros; kernel_rfl
@[simp] theorem call33 : ∀ (args : Array Go.Value) (w : Go.World), Go.Sem.run prog (Go.callFunc 33 args) w = Go.Result.ok (Go.Next.enter 33 args) w := by intros; kernel_rfl
@[simp] theorem call34 : ∀ (args : Array Go.Value) (w : Go.World), Go.Sem.run prog (Go.callFunc 34 args) w = Go.Result.ok (Go.Next.enter 34 args) w := by intros; kernel_rfl
@[simp] theorem call35 : ∀ (args : Array Go.Value) (w : Go.World), Go.Sem.run prog (Go.callFunc 35 args) w = Go.Result.ok (Go.Next.enter 35 args) w := by intros; kernel_rfl
@[simp] theorem call36 : ∀ (args : Array Go.Value) (w : Go.World), Go.Sem.run prog (Go.callFunc 36 args) w = Go.Result.ok (Go.Next.enter 36 args) w := by intros; kernel_rfl
@[simp] theorem call37 : ∀ (args : Array Go.Value) (w : Go.World), Go.Sem.run prog (Go.callFunc 37 args) w = Go.Result.ok (Go.Next.enter 37 args) w := by intros; kernel_rfl
@[simp] theorem call38 : ∀ (args : Array Go.Value) (w : Go.World), Go.Sem.run prog (Go.callFunc 38 args) w = Go.Result.ok (Go.Next.enter 38 args) w := by intros; kernel_rfl
@[simp] theorem call39 : ∀ (args : Array Go.Value) (w : Go.World), Go.Sem.run prog (Go.callFunc 39 args) w = Go.Result.ok (Go.Next.enter 39 args) w := by intros; kernel_rfl
@[simp] theorem call40 : ∀ (args : Array Go.Value) (w : Go.World), Go.Sem.run prog (Go.callFunc 40 args) w = Go.Result.ok (Go.Next.enter 40 args) w := by intros; kernel_rfl
@[simp] theorem call41 : ∀ (args : Array Go.Value) (w : Go.World), Go.Sem.run prog (Go.callFunc 41 args) w = Go.Result.ok (Go.Next.enter 41 args) w := by intros; kernel_rfl
@[simp] theorem call42 : ∀ (args : Array Go.Value) (w : Go.World), Go.Sem.run prog (Go.callFunc 42 args) w = Go.Result.ok (Go.Next.enter 42 args) w := by intros; kernel_rfl
@[simp] theorem call43 : ∀ (args : Array Go.Value) (w : Go.World), Go.Sem.run prog (Go.callFunc 43 args) w = Go.Result.ok (Go.Next.enter 43 args) w := by intros; kernel_rfl
@[simp] theorem call44 : ∀ (args : Array Go.Value) (w : Go.World), Go.Sem.run prog (Go.callFunc 44 args) w = Go.Result.ok (Go.Next.enter 44 args) w := by intros; kernel_rfl
@[simp] theorem call45 : ∀ (args : Array Go.Value) (w : Go.World), Go.Sem.run prog (Go.callFunc 45 args) w = Go.Result.ok (Go.Next.enter 45 args) w := by intros; kernel_rfl
@[simp] theorem call46 : ∀ (args : Array Go.Value) (w : Go.World), Go.Sem.run prog (Go.callFunc 46 args) w = Go.Result.ok (Go.Next.enter 46 args) w := by intros; kernel_rfl
@[simp] theorem call47 : ∀ (args : Array Go.Value) (w : Go.World), Go.Sem.run prog (Go.callFunc 47 args) w = Go.Result.ok (Go.Next.enter 47 args) w := by intros; kernel_rfl
@[simp] theorem call48 : ∀ (args : Array Go.Value) (w : Go.World), Go.Sem.run prog (Go.callFunc 48 args) w = Go.Result.ok (Go.Next.enter 48 args) w := by intros; kernel_rfl
@[simp] theorem call49 : ∀ (args : Array Go.Value) (w : Go.World), Go.Sem.run prog (Go.callFunc 49 args) w = Go.Result.ok (Go.Next.enter 49 args) w := by intros; kernel_rfl
@[simp] theorem call50 : ∀ (args : Array Go.Value) (w : Go.World), Go.Sem.run prog (Go.callFunc 50 args) w = Go.Result.ok (Go.Next.enter 50 args) w := by intros; kernel_rfl
@[simp] theorem call51 : ∀ (args : Array Go.Value) (w : Go.World), Go.Sem.run prog (Go.callFunc 51 args) w = Go.Result.ok (Go.Next.enter 51 args) w := by intros; kernel_rfl
@[simp] theorem call52 : ∀ (args : Array Go.Value) (w : Go.World), Go.Sem.run prog (Go.callFunc 52 args) w = Go.Result.ok (Go.Next.enter 52 args) w := by intros; kernel_rfl
@[simp] theorem call53 : ∀ (args : Array Go.Value) (w : Go.World), Go.Sem.run prog (Go.callFunc 53 args) w = Go.Result.ok (Go.Next.enter 53 args) w := by intros; kernel_rfl
@[simp] theorem call54 : ∀ (args : Array Go.Value) (w : Go.World), Go.Sem.run prog (Go.callFunc 54 args) w = Go.Result.ok (Go.Next.enter 54 args) w := by intros; kernel_rfl
@[simp] theorem call55 : ∀ (args : Array Go.Value) (w : Go.World), Go.Sem.run prog (Go.callFunc 55 args) w = Go.Result.ok (Go.Next.enter 55 args) w := by intros; kernel_rfl
@[simp] theorem call56 : ∀ (args : Array Go.Value) (w : Go.World), Go.Sem.run prog (Go.callFunc 56 args) w = Go.Result.ok (Go.Next.enter 56 args) w := by intros; kernel_rfl
@[simp] theorem call57 : ∀ (args : Array Go.Value) (w : Go.World), Go.Sem.run prog (Go.callFunc 57 args) w = Go.Result.ok (Go.Next.enter 57 args) w := by intros; kernel_rfl
@[simp] theorem call58 : ∀ (args : Array Go.Value) (w : Go.World), Go.Sem.run prog (Go.callFunc 58 args) w = Go.Result.ok (Go.Next.enter 58 args) w := by intros; kernel_rfl
@[simp] theorem call59 : ∀ (args : Array Go.Value) (w : Go.World), Go.Sem.run prog (Go.callFunc 59 args) w = Go.Result.ok (Go.Next.enter 59 args) w := by intros; kernel_rfl
@[simp] theorem call60 : ∀ (args : Array Go.Value) (w : Go.World), Go.Sem.run prog (Go.callFunc 60 args) w = Go.Result.ok (Go.Next.enter 60 args) w := by intros; kernel_rfl
@[simp] theorem call61 : ∀ (args : Array Go.Value) (w : Go.World), Go.Sem.run prog (Go.callFunc 61 args) w = Go.Result.ok (Go.Next.enter 61 args) w := by intros; kernel_rfl
@[simp] theorem call62 : ∀ (args : Array Go.Value) (w : Go.World), Go.Sem.run prog (Go.callFunc 62 args) w = Go.Result.ok (Go.Next.enter 62 args) w := by intros; kernel_rfl
@[simp] theorem call63 : ∀ (args : Array Go.Value) (w : Go.World), Go.Sem.run prog (Go.callFunc 63 args) w = Go.Result.ok (Go.Next.enter 63 args) w := by intros; kernel_rfl
@[simp] theorem call64 : ∀ (args : Array Go.Value) (w : Go.World), Go.Sem.run prog (Go.callFunc 64 args) w = Go.Result.ok (Go.Next.enter 64 args) w := by intros; kernel_rfl
@[simp] theorem call65 : ∀ (args : Array Go.Value) (w : Go.World), Go.Sem.run prog (Go.callFunc 65 args) w = Go.Result.ok (Go.Next.enter 65 args) w := by intros; kernel_rfl
@[simp] theorem call66 : ∀ (args : Array Go.Value) (w : Go.World), Go.Sem.run prog (Go.callFunc 66 args) w = Go.Result.ok (Go.Next.enter 66 args) w := by intros; kernel_rfl
@[simp] theorem call67 : ∀ (args : Array Go.Value) (w : Go.World), Go.Sem.run prog (Go.callFunc 67 args) w = Go.Result.ok (Go.Next.enter 67 args) w := by intros; kernel_rfl
@[simp] theorem call68 : ∀ (args : Array Go.Value) (w : Go.World), Go.Sem.run prog (Go.callFunc 68 args) w = Go.Result.ok (Go.Next.enter 68 args) w := by intros; kernel_rfl
@[simp] theorem call69 : ∀ (args : Array Go.Value) (w : Go.World), Go.Sem.run prog (Go.callFunc 69 args) w = Go.Result.ok (Go.Next.enter 69 args) w := by intros; kernel_rfl
@[simp] theorem call70 : ∀ (args : Array Go.Value) (w : Go.World), Go.Sem.run prog (Go.callFunc 70 args) w = Go.Result.ok (Go.Next.enter 70 args) w := by intros; kernel_rfl
@[simp] theorem call71 : ∀ (args : Array Go.Value) (w : Go.World), Go.Sem.run prog (Go.callFunc 71 args) w = Go.Result.ok (Go.Next.enter 71 args) w := by intros; kernel_rfl
@[simp] theorem call72 : ∀ (args : Array Go.Value) (w : Go.World), Go.Sem.run prog (Go.callFunc 72 args) w = Go.Result.ok (Go.Next.enter 72 args) w := by intros; kernel_rfl
@[simp] theorem call73 : ∀ (args : Array Go.Value) (w : Go.World), Go.Sem.run prog (Go.callFunc 73 args) w = Go.Result.ok (Go.Next.enter 73 args) w := by intros; kernel_rfl
@[simp] theorem call74 : ∀ (args : Array Go.Value) (w : Go.World), Go.Sem.run prog (Go.callFunc 74 args) w = Go.Result.ok (Go.Next.enter 74 args) w := by intros; kernel_rfl
@[simp] theorem call75 : ∀ (args : Array Go.Value) (w : Go.World), Go.Sem.run prog (Go.callFunc 75 args) w = Go.Result.ok (Go.Next.enter 75 args) w := by intros; kernel_rfl
@[simp] theorem call76 : ∀ (args : Array Go.Value) (w : Go.World), Go.Sem.run prog (Go.callFunc 76 args) w = Go.Result.ok (Go.Next.enter 76 args) w := by intros; kernel_rfl
@[simp] theorem call77 : ∀ (args : Array Go.Value) (w : Go.World), Go.Sem.run prog (Go.callFunc 77 args) w = Go.Result.ok (Go.Next.enter 77 args) w := by intros; kernel_rfl
@[simp] theorem call78 : ∀ (args : Array Go.Value) (w : Go.World), Go.Sem.run prog (Go.callFunc 78 args) w = Go.Result.ok (Go.Next.enter 78 args) w := by intros; kernel_rfl
@[simp] theorem call79 : ∀ (args : Array Go.Value) (w : Go.World), Go.Sem.run prog (Go.callFunc 79 args) w = Go.Result.ok (Go.Next.enter 79 args) w := by intros; kernel_rfl
@[simp] theorem call80 : ∀ (args : Array Go.Value) (w : Go.World), Go.Sem.run prog (Go.callFunc 80 args) w = Go.Result.ok (Go.Next.enter 80 args) w := by intros; kernel_rfl
@[simp] theorem call81 : ∀ (args : Array Go.Value) (w : Go.World), Go.Sem.run prog (Go.callFunc 81 args) w = Go.Result.ok (Go.Next.enter 81 args) w := by intros; kernel_rfl
@[simp] theorem call82 : ∀ (args : Array Go.Value) (w : Go.World), Go.Sem.run prog (Go.callFunc 82 args) w = Go.Result.ok (Go.Next.enter 82 args) w := by intros; kernel_rfl
@[simp] theorem call83 : ∀ (args : Array Go.Value) (w : Go.World), Go.Sem.run prog (Go.callFunc 83 args) w = Go.Result.ok (Go.Next.enter 83 args) w := by intros; kernel_rfl
@[simp] theorem call84 : ∀ (args : Array Go.Value) (w : Go.World), Go.Sem.run prog (Go.callFunc 84 args) w = Go.Result.ok (Go.Next.enter 84 args) w := by intros; kernel_rfl
@[simp] theorem call85 : ∀ (args : Array Go.Value) (w : Go.World), Go.Sem.run prog (Go.callFunc 85 args) w = Go.Result.ok (Go.Next.enter 85 args) w := by intros; kernel_rfl
@[simp] theorem call86 : ∀ (args : Array Go.Value) (w : Go.World), Go.Sem.run prog (Go.callFunc 86 args) w = Go.Result.ok (Go.Next.enter 86 args) w := by intros; kernel_rfl
@[simp] theorem call87 : ∀ (args : Array Go.Value) (w : Go.World), Go.Sem.run prog (Go.callFunc 87 args) w = Go.Result.ok (Go.Next.enter 87 args) w := by intros; kernel_rfl
@[simp] theorem call88 : ∀ (args : Array Go.Value) (w : Go.World), Go.Sem.run prog (Go.callFunc 88 args) w = Go.Result.ok (Go.Next.enter 88 args) w := by intros; kernel_rfl
@[simp] theorem call89 : ∀ (args : Array Go.Value) (w : Go.World), Go.Sem.run prog (Go.callFunc 89 args) w = Go.Result.ok (Go.Next.enter 89 args) w := by intros; kernel_rfl
@[simp] theorem call90 : ∀ (args : Array Go.Value) (w : Go.World), Go.Sem.run prog (Go.callFunc 90 args) w = Go.Result.ok (Go.Next.enter 90 args) w := by intros; kernel_rfl
@[simp] theorem call91 : ∀ (args : Array Go.Value) (w : Go.World), Go.Sem.run prog (Go.callFunc 91 args) w = Go.Result.ok (Go.Next.enter 91 args) w := by intros; kernel_rfl
@[simp] theorem call98 : ∀ (args : Array Go.Value) (w : Go.World), Go.Sem.run prog (Go.callFunc 98 args) w = Go.Result.ok (Go.Next.enter 98 args) w := by intros; kernel_rfl
@[simp] theorem call99 : ∀ (args : Array Go.Value) (w : Go.World), Go.Sem.run prog (Go.callFunc 99 args) w = Go.Result.ok (Go.Next.enter 99 args) w := by intros; kernel_rfl
@[simp] theorem call101 : ∀ (args : Array Go.Value) (w : Go.World), Go.Sem.run prog (Go.callFunc 101 args) w = Go.Result.ok (Go.Next.enter 101 args) w := by intros; kernel_rfl
@[simp] theorem call102 : ∀ (args : Array Go.Value) (w : Go.World), Go.Sem.run prog (Go.callFunc 102 args) w = Go.Result.ok (Go.Next.enter 102 args) w := by intros; kernel_rfl
@[simp] theorem call107 : ∀ (args : Array Go.Value) (w : Go.World), Go.Sem.run prog (Go.callFunc 107 args) w = Go.Result.ok (Go.Next.enter 107 args) w := by intros; kernel_rfl
@[simp] theorem call110 : ∀ (args : Array Go.Value) (w : Go.World), Go.Sem.run prog (Go.callFunc 110 args) w = Go.Result.ok (Go.Next.enter 110 args) w := by intros; kernel_rfl
@[simp] theorem call111 : ∀ (args : Array Go.Value) (w : Go.World), Go.Sem.run prog (Go.callFunc 111 args) w = Go.Result.ok (Go.Next.enter 111 args) w := by intros; kernel_rfl
@[simp] theorem call112 : ∀ (args : Array Go.Value) (w : Go.World), Go.Sem.run prog (Go.callFunc 112 args) w = Go.Result.ok (Go.Next.enter 112 args) w := by intros; kernel_rfl
@[simp] theorem call113 : ∀ (args : Array Go.Value) (w : Go.World), Go.Sem.run prog (Go.callFunc 113 args) w = Go.Result.ok (Go.Next.enter 113 args) w := by intros; kernel_rfl
@[simp] theorem call119 : ∀ (args : Array Go.Value) (w : Go.World), Go.Sem.run prog (Go.callFunc 119 args) w = Go.Result.ok (Go.Next.enter 119 args) w := by intros; kernel_rfl
@[simp] theorem call120 : ∀ (args : Array Go.Value) (w : Go.World), Go.Sem.run prog (Go.callFunc 120 args) w = Go.Result.ok (Go.Next.enter 120 args) w := by intros; kernel_rfl
@[simp] theorem eqGuardType7 : prog.eqGuardType prog.depth 7 = false := by kernel_rfl
@[simp] theorem eqGuardType8 : prog.eqGuardType prog.depth 8 = false := by kernel_rfl
@[simp] theorem eqGuardType13 : prog.eqGuardType prog.depth 13 = false := by kernel_rfl
@[simp] theorem eqGuardType14 : prog.eqGuardType prog.depth 14 = false := by kernel_rfl
@[simp] theorem eqGuardType18 : prog.eqGuardType prog.depth 18 = false := by kernel_rfl
@[simp] theorem eqGuardType19 : prog.eqGuardType prog.depth 19 = false := by kernel_rfl
@[simp] theorem eqGuardType28 : prog.eqGuardType prog.depth 28 = false := by kernel_rfl
@[simp] theorem eqGuardType29 : prog.eqGuardType prog.depth 29 = false := by kernel_rfl
@[simp] theorem eqGuardType36 : prog.eqGuardType prog.depth 36 = false := by kernel_rfl
@[simp] theorem eqGuardType37 : prog.eqGuardType prog.depth 37 = false := by kernel_rfl
@[simp] theorem eqGuardType38 : prog.eqGuardType prog.depth 38 = false := by kernel_rfl
@[simp] theorem eqGuardType39 : prog.eqGuardType prog.depth 39 = false := by kernel_rfl
@[simp] theorem eqGuardType43 : prog.eqGuardType prog.depth 43 = false := by kernel_rfl
@[simp] theorem eqGuardType44 : prog.eqGuardType prog.depth 44 = false := by kernel_rfl
@[simp] theorem eqGuardType54 : prog.eqGuardType prog.depth 54 = false := by kernel_rfl
@[simp] theorem eqGuardType55 : prog.eqGuardType prog.depth 55 = false := by kernel_rfl
@[simp] theorem eqGuardType56 : prog.eqGuardType prog.depth 56 = false := by kernel_rfl
@[simp] theorem eqGuardType57 : prog.eqGuardType prog.depth 57 = false := by kernel_rfl
@[simp] theorem eqGuardType66 : prog.eqGuardType prog.depth 66 = false := by kernel_rfl
@[simp] theorem eqGuardType83 : prog.eqGuardType prog.depth 83 = false := by kernel_rfl
@[simp] theorem eqGuardType84 : prog.eqGuardType prog.depth 84 = false := by kernel_rfl
@[simp] theorem eqGuardType86 : prog.eqGuardType prog.depth 86 = false := by kernel_rfl
@[simp] theorem eqGuardType90 : prog.eqGuardType prog.depth 90 = false := by kernel_rfl
@[simp] theorem eqGuardType91 : prog.eqGuardType prog.depth 91 = false := by kernel_rfl
@[simp] theorem eqGuardType94 : prog.eqGuardType prog.depth 94 = false := by kernel_rfl
@[simp] theorem eqGuardType95 : prog.eqGuardType prog.depth 95 = false := by kernel_rfl
@[simp] theorem eqGuardType100 : prog.eqGuardType prog.depth 100 = false := by kernel_rfl
@[simp] theorem eqGuardType101 : prog.eqGuardType prog.depth 101 = false := by kernel_rfl
@[simp] theorem eqGuardType117 : prog.eqGuardType prog.depth 117 = false := by kernel_rfl
@[simp] theorem eqGuardType118 : prog.eqGuardType prog.depth 118 = false := by kernel_rfl
@[simp] theorem eqGuardType119 : prog.eqGuardType prog.depth 119 = false := by kernel_rfl
@[simp] theorem eqGuardType120 : prog.eqGuardType prog.depth 120 = false := by kernel_rfl
@[simp] theorem eqGuardType122 : prog.eqGuardType prog.depth 122 = false := by kernel_rfl
@[simp] theorem eqGuardType123 : prog.eqGuardType prog.depth 123 = false := by kernel_rfl
@[simp] theorem eqGuardType125 : prog.eqGuardType prog.depth 125 = false := by kernel_rfl
@[simp] theorem eqGuardType126 : prog.eqGuardType prog.depth 126 = false := by kernel_rfl
@[simp] theorem eqGuardType162 : prog.eqGuardType prog.depth 162 = false := by kernel_rfl
@[simp] theorem eqGuardType163 : prog.eqGuardType prog.depth 163 = false := by kernel_rfl
@[simp] theorem eqGuardType164 : prog.eqGuardType prog.depth 164 = false := by kernel_rfl
@[simp] theorem eqGuardType165 : prog.eqGuardType prog.depth 165 = false := by kernel_rfl
@[simp] theorem eqGuardType166 : prog.eqGuardType prog.depth 166 = false := by kernel_rfl
@[simp] theorem eqGuardType174 : prog.eqGuardType prog.depth 174 = false := by kernel_rfl
@[simp] theorem eqGuardType175 : prog.eqGuardType prog.depth 175 = false := by kernel_rfl
theorem func0 : prog.funcs[0]? = Option.some Try.f0 := by kernel_rfl
theorem func1 : prog.funcs[1]? = Option.some Try.f1 := by kernel_rfl
theorem func2 : prog.funcs[2]? = Option.some Try.f2 := by kernel_rfl
theorem func3 : prog.funcs[3]? = Option.some Try.f3 := by kernel_rfl
theorem func4 : prog.funcs[4]? = Option.some Try.f4 := by kernel_rfl
theorem func5 : prog.funcs[5]? = Option.some Try.f5 := by kernel_rfl
theorem func6 : prog.funcs[6]? = Option.some Try.f6 := by kernel_rfl
theorem func7 : prog.funcs[7]? = Option.some Try.f7 := by kernel_rfl
theorem func8 : prog.funcs[8]? = Option.some Try.f8 := by kernel_rfl
theorem func9 : prog.funcs[9]? = Option.some Try.f9 := by kernel_rfl
theorem func10 : prog.funcs[10]? = Option.some Try.f10 := by kernel_rfl
theorem func11 : prog.funcs[11]? = Option.some Try.f11 := by kernel_rfl
theorem func12 : prog.funcs[12]? = Option.some Try.f12 := by kernel_rfl
theorem func13 : prog.funcs[13]? = Option.some Try.f13 := by kernel_rfl
theorem func14 : prog.funcs[14]? = Option.some Try.f14 := by kernel_rfl
theorem func15 : prog.funcs[15]? = Option.some Try.f15 := by kernel_rfl
theorem func16 : prog.funcs[16]? = Option.some Try.f16 := by kernel_rfl
theorem func17 : prog.funcs[17]? = Option.some Try.f17 := by kernel_rfl
theorem func18 : prog.funcs[18]? = Option.some Try.f18 := by kernel_rfl
theorem func19 : prog.funcs[19]? = Option.some Try.f19 := by kernel_rfl
theorem func20 : prog.funcs[20]? = Option.some Try.f20 := by kernel_rfl
theorem func21 : prog.funcs[21]? = Option.some Try.f21 := by kernel_rfl
theorem func22 : prog.funcs[22]? = Option.some Try.f22 := by kernel_rfl
theorem func23 : prog.funcs[23]? = Option.some Try.f23 := by kernel_rfl
theorem func24 : prog.funcs[24]? = Option.some Try.f24 := by kernel_rfl
theorem func25 : prog.funcs[25]? = Option.some Try.f25 := by kernel_rfl
theorem func26 : prog.funcs[26]? = Option.some Try.f26 := by kernel_rfl
theorem func27 : prog.funcs[27]? = Option.some Try.f27 := by kernel_rfl
theorem func28 : prog.funcs[28]? = Option.some Try.f28 := by kernel_rfl
theorem func29 : prog.funcs[29]? = Option.some Try.f29 := by kernel_rfl
theorem func30 : prog.funcs[30]? = Option.some Try.f30 := by kernel_rfl
theorem func31 : prog.funcs[31]? = Option.some Try.f31 := by kernel_rfl
theorem func32 : prog.funcs[32]? = Option.some Try.f32 := by kernel_rfl
theorem func33 : prog.funcs[33]? = Option.some Try.f33 := by kernel_rfl
theorem func34 : prog.funcs[34]? = Option.some Try.f34 := by kernel_rfl
theorem func35 : prog.funcs[35]? = Option.some Try.f35 := by kernel_rfl
theorem func36 : prog.funcs[36]? = Option.some Try.f36 := by kernel_rfl
theorem func37 : prog.funcs[37]? = Option.some Try.f37 := by kernel_rfl
theorem func38 : prog.funcs[38]? = Option.some Try.f38 := by kernel_rfl
theorem func39 : prog.funcs[39]? = Option.some Try.f39 := by kernel_rfl
theorem func40 : prog.funcs[40]? = Option.some Try.f40 := by kernel_rfl
theorem func41 : prog.funcs[41]? = Option.some Try.f41 := by kernel_rfl
theorem func42 : prog.funcs[42]? = Option.some Try.f42 := by kernel_rfl
theorem func43 : prog.funcs[43]? = Option.some Try.f43 := by kernel_rfl
theorem func44 : prog.funcs[44]? = Option.some Try.f44 := by kernel_rfl
theorem func45 : prog.funcs[45]? = Option.some Try.f45 := by kernel_rfl
theorem func46 : prog.funcs[46]? = Option.some Try.f46 := by kernel_rfl
theorem func47 : prog.funcs[47]? = Option.some Try.f47 := by kernel_rfl
theorem func48 : prog.funcs[48]? = Option.some Try.f48 := by kernel_rfl
theorem func49 : prog.funcs[49]? = Option.some Try.f49 := by kernel_rfl
theorem func50 : prog.funcs[50]? = Option.some Try.f50 := by kernel_rfl
theorem func52 : prog.funcs[52]? = Option.some Try.f52 := by kernel_rfl
theorem func53 : prog.funcs[53]? = Option.some Try.f53 := by kernel_rfl
theorem func54 : prog.funcs[54]? = Option.some Try.f54 := by kernel_rfl
theorem func55 : prog.funcs[55]? = Option.some Try.f55 := by kernel_rfl
theorem func56 : prog.funcs[56]? = Option.some Try.f56 := by kernel_rfl
theorem func57 : prog.funcs[57]? = Option.some Try.f57 := by kernel_rfl
theorem func58 : prog.funcs[58]? = Option.some Try.f58 := by kernel_rfl
theorem func59 : prog.funcs[59]? = Option.some Try.f59 := by kernel_rfl
theorem func60 : prog.funcs[60]? = Option.some Try.f60 := by kernel_rfl
theorem func61 : prog.funcs[61]? = Option.some Try.f61 := by kernel_rfl
theorem func62 : prog.funcs[62]? = Option.some Try.f62 := by kernel_rfl
theorem func63 : prog.funcs[63]? = Option.some Try.f63 := by kernel_rfl
theorem func64 : prog.funcs[64]? = Option.some Try.f64 := by kernel_rfl
theorem func65 : prog.funcs[65]? = Option.some Try.f65 := by kernel_rfl
theorem func66 : prog.funcs[66]? = Option.some Try.f66 := by kernel_rfl
theorem func67 : prog.funcs[67]? = Option.some Try.f67 := by kernel_rfl
theorem func68 : prog.funcs[68]? = Option.some Try.f68 := by kernel_rfl
theorem func69 : prog.funcs[69]? = Option.some Try.f69 := by kernel_rfl
theorem func70 : prog.funcs[70]? = Option.some Try.f70 := by kernel_rfl
theorem func71 : prog.funcs[71]? = Option.some Try.f71 := by kernel_rfl
theorem func72 : prog.funcs[72]? = Option.some Try.f72 := by kernel_rfl
theorem func73 : prog.funcs[73]? = Option.some Try.f73 := by kernel_rfl
theorem func74 : prog.funcs[74]? = Option.some Try.f74 := by kernel_rfl
theorem func75 : prog.funcs[75]? = Option.some Try.f75 := by kernel_rfl
theorem func76 : prog.funcs[76]? = Option.some Try.f76 := by kernel_rfl
theorem func77 : prog.funcs[77]? = Option.some Try.f77 := by kernel_rfl
theorem func78 : prog.funcs[78]? = Option.some Try.f78 := by kernel_rfl
theorem func79 : prog.funcs[79]? = Option.some Try.f79 := by kernel_rfl
theorem func80 : prog.funcs[80]? = Option.some Try.f80 := by kernel_rfl
theorem func81 : prog.funcs[81]? = Option.some Try.f81 := by kernel_rfl
theorem func82 : prog.funcs[82]? = Option.some Try.f82 := by kernel_rfl
theorem func83 : prog.funcs[83]? = Option.some Try.f83 := by kernel_rfl
theorem func84 : prog.funcs[84]? = Option.some Try.f84 := by kernel_rfl
theorem func85 : prog.funcs[85]? = Option.some Try.f85 := by kernel_rfl
theorem func86 : prog.funcs[86]? = Option.some Try.f86 := by kernel_rfl
theorem func87 : prog.funcs[87]? = Option.some Try.f87 := by kernel_rfl
theorem func88 : prog.funcs[88]? = Option.some Try.f88 := by kernel_rfl
theorem func89 : prog.funcs[89]? = Option.some Try.f89 := by kernel_rfl
theorem func90 : prog.funcs[90]? = Option.some Try.f90 := by kernel_rfl
theorem func91 : prog.funcs[91]? = Option.some Try.f91 := by kernel_rfl
theorem func92 : prog.funcs[92]? = Option.some Try.f92 := by kernel_rfl
theorem func93 : prog.funcs[93]? = Option.some Try.f93 := by kernel_rfl
theorem func94 : prog.funcs[94]? = Option.some Try.f94 := by kernel_rfl
theorem func95 : prog.funcs[95]? = Option.some Try.f95 := by kernel_rfl
theorem func96 : prog.funcs[96]? = Option.some Try.f96 := by kernel_rfl
theorem func97 : prog.funcs[97]? = Option.some Try.f97 := by kernel_rfl
theorem func98 : prog.funcs[98]? = Option.some Try.f98 := by kernel_rfl
theorem func99 : prog.funcs[99]? = Option.some Try.f99 := by kernel_rfl
theorem func100 : prog.funcs[100]? = Option.some Try.f100 := by kernel_rfl
theorem func101 : prog.funcs[101]? = Option.some Try.f101 := by kernel_rfl
theorem func102 : prog.funcs[102]? = Option.some Try.f102 := by kernel_rfl
theorem func103 : prog.funcs[103]? = Option.some Try.f103 := by kernel_rfl
theorem func104 : prog.funcs[104]? = Option.some Try.f104 := by kernel_rfl
theorem func105 : prog.funcs[105]? = Option.some Try.f105 := by kernel_rfl
theorem func106 : prog.funcs[106]? = Option.some Try.f106 := by kernel_rfl
theorem func107 : prog.funcs[107]? = Option.some Try.f107 := by kernel_rfl
theorem func108 : prog.funcs[108]? = Option.some Try.f108 := by kernel_rfl
theorem func109 : prog.funcs[109]? = Option.some Try.f109 := by kernel_rfl
theorem func110 : prog.funcs[110]? = Option.some Try.f110 := by kernel_rfl
theorem func111 : prog.funcs[111]? = Option.some Try.f111 := by kernel_rfl
theorem func112 : prog.funcs[112]? = Option.some Try.f112 := by kernel_rfl
theorem func113 : prog.funcs[113]? = Option.some Try.f113 := by kernel_rfl
theorem func114 : prog.funcs[114]? = Option.some Try.f114 := by kernel_rfl
theorem func115 : prog.funcs[115]? = Option.some Try.f115 := by kernel_rfl
theorem func116 : prog.funcs[116]? = Option.some Try.f116 := by kernel_rfl
theorem func117 : prog.funcs[117]? = Option.some Try.f117 := by kernel_rfl
theorem func118 : prog.funcs[118]? = Option.some Try.f118 := by kernel_rfl
theorem func119 : prog.funcs[119]? = Option.some Try.f119 := by kernel_rfl
theorem func120 : prog.funcs[120]? = Option.some Try.f120 := by kernel_rfl
theorem func121 : prog.funcs[121]? = Option.some Try.f121 := by kernel_rfl
theorem func122 : prog.funcs[122]? = Option.some Try.f122 := by kernel_rfl
theorem func123 : prog.funcs[123]? = Option.some Try.f123 := by kernel_rfl
theorem func124 : prog.funcs[124]? = Option.some Try.f124 := by kernel_rfl
theorem func125 : prog.funcs[125]? = Option.some Try.f125 := by kernel_rfl
theorem func126 : prog.funcs[126]? = Option.some Try.f126 := by kernel_rfl
theorem func127 : prog.funcs[127]? = Option.some Try.f127 := by kernel_rfl
theorem func128 : prog.funcs[128]? = Option.some Try.f128 := by kernel_rfl
theorem func129 : prog.funcs[129]? = Option.some Try.f129 := by kernel_rfl
theorem func130 : prog.funcs[130]? = Option.some Try.f130 := by kernel_rfl
theorem func131 : prog.funcs[131]? = Option.some Try.f131 := by kernel_rfl
theorem func132 : prog.funcs[132]? = Option.some Try.f132 := by kernel_rfl
theorem func133 : prog.funcs[133]? = Option.some Try.f133 := by kernel_rfl
theorem func134 : prog.funcs[134]? = Option.some Try.f134 := by kernel_rfl
theorem func135 : prog.funcs[135]? = Option.some Try.f135 := by kernel_rfl
theorem func136 : prog.funcs[136]? = Option.some Try.f136 := by kernel_rfl
theorem func137 : prog.funcs[137]? = Option.some Try.f137 := by kernel_rfl
@[simp] theorem globals_size : prog.globals.size = 0 := by kernel_rfl
@[simp] theorem isAgg0 : ∀ (w : Go.World), Go.Sem.run prog (Go.isAgg 0) w = Go.Result.ok false w := by intros; kernel_rfl
@[simp] theorem isAgg1 : ∀ (w : Go.World), Go.Sem.run prog (Go.isAgg 1) w = Go.Result.ok false w := by intros; kernel_rfl
@[simp] theorem isAgg2 : ∀ (w : Go.World), Go.Sem.run prog (Go.isAgg 2) w = Go.Result.ok false w := by intros; kernel_rfl
@[simp] theorem isAgg3 : ∀ (w : Go.World), Go.Sem.run prog (Go.isAgg 3) w = Go.Result.ok false w := by intros; kernel_rfl
@[simp] theorem isAgg4 : ∀ (w : Go.World), Go.Sem.run prog (Go.isAgg 4) w = Go.Result.ok false w := by intros; kernel_rfl
@[simp] theorem isAgg5 : ∀ (w : Go.World), Go.Sem.run prog (Go.isAgg 5) w = Go.Result.ok false w := by intros; kernel_rfl
@[simp] theorem isAgg6 : ∀ (w : Go.World), Go.Sem.run prog (Go.isAgg 6) w = Go.Result.ok false w := by intros; kernel_rfl
@[simp] theorem isAgg7 : ∀ (w : Go.World), Go.Sem.run prog (Go.isAgg 7) w = Go.Result.ok true w := by intros; kernel_rfl
@[simp] theorem isAgg8 : ∀ (w : Go.World), Go.Sem.run prog (Go.isAgg 8) w = Go.Result.ok true w := by intros; kernel_rfl
@[simp] theorem isAgg9 : ∀ (w : Go.World), Go.Sem.run prog (Go.isAgg 9) w = Go.Result.ok false w := by intros; kernel_rfl
@[simp] theorem isAgg10 : ∀ (w : Go.World), Go.Sem.run prog (Go.isAgg 10) w = Go.Result.ok false w := by intros; kernel_rfl
@[simp] theorem isAgg11 : ∀ (w : Go.World), Go.Sem.run prog (Go.isAgg 11) w = Go.Result.ok false w := by intros; kernel_rfl
@[simp] theorem isAgg12 : ∀ (w : Go.World), Go.Sem.run prog (Go.isAgg 12) w = Go.Result.ok false w := by intros; kernel_rfl
@[simp] theorem isAgg13 : ∀ (w : Go.World), Go.Sem.run prog (Go.isAgg 13) w = Go.Result.ok true w := by intros; kernel_rfl
@[simp] theorem isAgg14 : ∀ (w : Go.World), Go.Sem.run prog (Go.isAgg 14) w = Go.Result.ok true w := by intros; kernel_rfl
@[simp] theorem isAgg15 : ∀ (w : Go.World), Go.Sem.run prog (Go.isAgg 15) w = Go.Result.ok false w := by intros; kernel_rfl
@[simp] theorem isAgg16 : ∀ (w : Go.World), Go.Sem.run prog (Go.isAgg 16) w = Go.Result.ok false w := by intros; kernel_rfl
@[simp] theorem isAgg17 : ∀ (w : Go.World), Go.Sem.run prog (Go.isAgg 17) w = Go.Result.ok false w := by intros; kernel_rfl
@[simp] theorem isAgg18 : ∀ (w : Go.World), Go.Sem.run prog (Go.isAgg 18) w = Go.Result.ok true w := by intros; kernel_rfl
@[simp] theorem isAgg19 : ∀ (w : Go.World), Go.Sem.run prog (Go.isAgg 19) w = Go.Result.ok true w := by intros; kernel_rfl
@[simp] theorem isAgg20 : ∀ (w : Go.World), Go.Sem.run prog (Go.isAgg 20) w = Go.Result.ok false w := by intros; kernel_rfl
@[simp] theorem isAgg21 : ∀ (w : Go.World), Go.Sem.run prog (Go.isAgg 21) w = Go.Result.ok false w := by intros; kernel_rfl
@[simp] theorem isAgg22 : ∀ (w : Go.World), Go.Sem.run prog (Go.isAgg 22) w = Go.Result.ok false w := by intros; kernel_rfl
@[simp] theorem isAgg23 : ∀ (w : Go.World), Go.Sem.run prog (Go.isAgg 23) w = Go.Result.ok false w := by intros; kernel_rfl
@[simp] theorem isAgg24 : ∀ (w : Go.World), Go.Sem.run prog (Go.isAgg 24) w = Go.Result.ok false w := by intros; kernel_rfl
@[simp] theorem isAgg25 : ∀ (w : Go.World), Go.Sem.run prog (Go.isAgg 25) w = Go.Result.ok false w := by intros; kernel_rfl
@[simp] theorem isAgg26 : ∀ (w : Go.World), Go.Sem.run prog (Go.isAgg 26) w = Go.Result.ok false w := by intros; kernel_rfl
@[simp] theorem isAgg27 : ∀ (w : Go.World), Go.Sem.run prog (Go.isAgg 27) w = Go.Result.ok false w := by intros; kernel_rfl
@[simp] theorem isAgg28 : ∀ (w : Go.World), Go.Sem.run prog (Go.isAgg 28) w = Go.Result.ok true w := by intros; kernel_rfl
@[simp] theorem isAgg29 : ∀ (w : Go.World), Go.Sem.run prog (Go.isAgg 29) w = Go.Result.ok true w := by intros; kernel_rfl
@[simp] theorem isAgg30 : ∀ (w : Go.World), Go.Sem.run prog (Go.isAgg 30) w = Go.Result.ok false w := by intros; kernel_rfl
@[simp] theorem isAgg31 : ∀ (w : Go.World), Go.Sem.run prog (Go.isAgg 31) w = Go.Result.ok false w := by intros; kernel_rfl
@[simp] theorem isAgg32 : ∀ (w : Go.World), Go.Sem.run prog (Go.isAgg 32) w = Go.Result.ok false w := by intros; kernel_rfl
@[simp] theorem isAgg33 : ∀ (w : Go.World), Go.Sem.run prog (Go.isAgg 33) w = Go.Result.ok false w := by intros; kernel_rfl
@[simp] theorem isAgg34 : ∀ (w : Go.World), Go.Sem.run prog (Go.isAgg 34) w = Go.Result.ok false w := by intros; kernel_rfl
@[simp] theorem isAgg35 : ∀ (w : Go.World), Go.Sem.run prog (Go.isAgg 35) w = Go.Result.ok false w := by intros; kernel_rfl
@[simp] theorem isAgg36 : ∀ (w : Go.World), Go.Sem.run prog (Go.isAgg 36) w = Go.Result.ok true w := by intros; kernel_rfl
@[simp] theorem isAgg37 : ∀ (w : Go.World), Go.Sem.run prog (Go.isAgg 37) w = Go.Result.ok true w := by intros; kernel_rfl
@[simp] theorem isAgg38 : ∀ (w : Go.World), Go.Sem.run prog (Go.isAgg 38) w = Go.Result.ok true w := by intros; kernel_rfl
@[simp] theorem isAgg39 : ∀ (w : Go.World), Go.Sem.run prog (Go.isAgg 39) w = Go.Result.ok true w := by intros; kernel_rfl
@[simp] theorem isAgg40 : ∀ (w : Go.World), Go.Sem.run prog (Go.isAgg 40) w = Go.Result.ok false w := by intros; kernel_rfl
@[simp] theorem isAgg41 : ∀ (w : Go.World), Go.Sem.run prog (Go.isAgg 41) w = Go.Result.ok false w := by intros; kernel_rfl
@[simp] theorem isAgg42 : ∀ (w : Go.World), Go.Sem.run prog (Go.isAgg 42) w = Go.Result.ok false w := by intros; kernel_rfl
@[simp] theorem isAgg43 : ∀ (w : Go.World), Go.Sem.run prog (Go.isAgg 43) w = Go.Result.ok true w := by intros; kernel_rfl
@[simp] theorem isAgg44 : ∀ (w : Go.World), Go.Sem.run prog (Go.isAgg 44) w = Go.Result.ok true w := by intros; kernel_rfl
@[simp] theorem isAgg45 : ∀ (w : Go.World), Go.Sem.run prog (Go.isAgg 45) w = Go.Result.ok false w := by intros; kernel_rfl
@[simp] theorem isAgg46 : ∀ (w : Go.World), Go.Sem.run prog (Go.isAgg 46) w = Go.Result.ok false w := by intros; kernel_rfl
@[simp] theorem isAgg47 : ∀ (w : Go.World), Go.Sem.run prog (Go.isAgg 47) w = Go.Result.ok false w := by intros; kernel_rfl
@[simp] theorem isAgg48 : ∀ (w : Go.World), Go.Sem.run prog (Go.isAgg 48) w = Go.Result.ok false w := by intros; kernel_rfl
@[simp] theorem isAgg49 : ∀ (w : Go.World), Go.Sem.run prog (Go.isAgg 49) w = Go.Result.ok false w := by intros; kernel_rfl
@[simp] theorem isAgg50 : ∀ (w : Go.World), Go.Sem.run prog (Go.isAgg 50) w = Go.Result.ok false w := by intros; kernel_rfl
@[simp] theorem isAgg51 : ∀ (w : Go.World), Go.Sem.run prog (Go.isAgg 51) w = Go.Result.ok false w := by intros; kernel_rfl
@[simp] theorem isAgg52 : ∀ (w : Go.World), Go.Sem.run prog (Go.isAgg 52) w = Go.Result.ok false w := by intros; kernel_rfl
@[simp] theorem isAgg53 : ∀ (w : Go.World), Go.Sem.run prog (Go.isAgg 53) w = Go.Result.ok false w := by intros; kernel_rfl
@[simp] theorem isAgg54 : ∀ (w : Go.World), Go.Sem.run prog (Go.isAgg 54) w = Go.Result.ok true w := by intros; kernel_rfl
@[simp] theorem isAgg55 : ∀ (w : Go.World), Go.Sem.run prog (Go.isAgg 55) w = Go.Result.ok true w := by intros; kernel_rfl
@[simp] theorem isAgg56 : ∀ (w : Go.World), Go.Sem.run prog (Go.isAgg 56) w = Go.Result.ok true w := by intros; kernel_rfl
@[simp] theorem isAgg57 : ∀ (w : Go.World), Go.Sem.run prog (Go.isAgg 57) w = Go.Result.ok true w := by intros; kernel_rfl
@[simp] theorem isAgg58 : ∀ (w : Go.World), Go.Sem.run prog (Go.isAgg 58) w = Go.Result.ok false w := by intros; kernel_rfl
@[simp] theorem isAgg59 : ∀ (w : Go.World), Go.Sem.run prog (Go.isAgg 59) w = Go.Result.ok false w := by intros; kernel_rfl
@[simp] theorem isAgg60 : ∀ (w : Go.World), Go.Sem.run prog (Go.isAgg 60) w = Go.Result.ok false w := by intros; kernel_rfl
@[simp] theorem isAgg61 : ∀ (w : Go.World), Go.Sem.run prog (Go.isAgg 61) w = Go.Result.ok false w := by intros; kernel_rfl
@[simp] theorem isAgg62 : ∀ (w : Go.World), Go.Sem.run prog (Go.isAgg 62) w = Go.Result.ok false w := by intros; kernel_rfl
@[simp] theorem isAgg63 : ∀ (w : Go.World), Go.Sem.run prog (Go.isAgg 63) w = Go.Result.ok false w := by intros; kernel_rfl
@[simp] theorem isAgg64 : ∀ (w : Go.World), Go.Sem.run prog (Go.isAgg 64) w = Go.Result.ok false w := by intros; kernel_rfl
@[simp] theorem isAgg65 : ∀ (w : Go.World), Go.Sem.run prog (Go.isAgg 65) w = Go.Result.ok false w := by intros; kernel_rfl
@[simp] theorem isAgg66 : ∀ (w : Go.World), Go.Sem.run prog (Go.isAgg 66) w = Go.Result.ok true w := by intros; kernel_rfl
@[simp] theorem isAgg67 : ∀ (w : Go.World), Go.Sem.run prog (Go.isAgg 67) w = Go.Result.ok false w := by intros; kernel_rfl
@[simp] theorem isAgg68 : ∀ (w : Go.World), Go.Sem.run prog (Go.isAgg 68) w = Go.Result.ok false w := by intros; kernel_rfl
@[simp] theorem isAgg69 : ∀ (w : Go.World), Go.Sem.run prog (Go.isAgg 69) w = Go.Result.ok false w := by intros; kernel_rfl
@[simp] theorem isAgg70 : ∀ (w : Go.World), Go.Sem.run prog (Go.isAgg 70) w = Go.Result.ok false w := by intros; kernel_rfl
@[simp] theorem isAgg71 : ∀ (w : Go.World), Go.Sem.run prog (Go.isAgg 71) w = Go.Result.ok false w := by intros; kernel_rfl
@[simp] theorem isAgg72 : ∀ (w : Go.World), Go.Sem.run prog (Go.isAgg 72) w = Go.Result.ok false w := by intros; kernel_rfl
@[simp] theorem isAgg73 : ∀ (w : Go.World), Go.Sem.run prog (Go.isAgg 73) w = Go.Result.ok false w := by intros; kernel_rfl
@[simp] theorem isAgg74 : ∀ (w : Go.World), Go.Sem.run prog (Go.isAgg 74) w = Go.Result.ok false w := by intros; kernel_rfl
@[simp] theorem isAgg75 : ∀ (w : Go.World), Go.Sem.run prog (Go.isAgg 75) w = Go.Result.ok false w := by intros; kernel_rfl
@[simp] theorem isAgg76 : ∀ (w : Go.World), Go.Sem.run prog (Go.isAgg 76) w = Go.Result.ok false w := by intros; kernel_rfl
@[simp] theorem isAgg77 : ∀ (w : Go.World), Go.Sem.run prog (Go.isAgg 77) w = Go.Result.ok false w := by intros; kernel_rfl
@[simp] theorem isAgg78 : ∀ (w : Go.World), Go.Sem.run prog (Go.isAgg 78) w = Go.Result.ok false w := by intros; kernel_rfl
@[simp] theorem isAgg79 : ∀ (w : Go.World), Go.Sem.run prog (Go.isAgg 79) w = Go.Result.ok false w := by intros; kernel_rfl
@[simp] theorem isAgg80 : ∀ (w : Go.World), Go.Sem.run prog (Go.isAgg 80) w = Go.Result.ok false w := by intros; kernel_rfl
@[simp] theorem isAgg81 : ∀ (w : Go.World), Go.Sem.run prog (Go.isAgg 81) w = Go.Result.ok false w := by intros; kernel_rfl
@[simp] theorem isAgg82 : ∀ (w : Go.World), Go.Sem.run prog (Go.isAgg 82) w = Go.Result.ok false w := by intros; kernel_rfl
@[simp] theorem isAgg83 : ∀ (w : Go.World), Go.Sem.run prog (Go.isAgg 83) w = Go.Result.ok true w := by intros; kernel_rfl
@[simp] theorem isAgg84 : ∀ (w : Go.World), Go.Sem.run prog (Go.isAgg 84) w = Go.Result.ok true w := by intros; kernel_rfl
@[simp] theorem isAgg85 : ∀ (w : Go.World), Go.Sem.run prog (Go.isAgg 85) w = Go.Result.ok false w := by intros; kernel_rfl
@[simp] theorem isAgg86 : ∀ (w : Go.World), Go.Sem.run prog (Go.isAgg 86) w = Go.Result.ok true w := by intros; kernel_rfl
@[simp] theorem isAgg87 : ∀ (w : Go.World), Go.Sem.run prog (Go.isAgg 87) w = Go.Result.ok false w := by intros; kernel_rfl
@[simp] theorem isAgg88 : ∀ (w : Go.World), Go.Sem.run prog (Go.isAgg 88) w = Go.Result.ok false w := by intros; kernel_rfl
@[simp] theorem isAgg89 : ∀ (w : Go.World), Go.Sem.run prog (Go.isAgg 89) w = Go.Result.ok false w := by intros; kernel_rfl
@[simp] theorem isAgg90 : ∀ (w : Go.World), Go.Sem.run prog (Go.isAgg 90) w = Go.Result.ok true w := by intros; kernel_rfl
@[simp] theorem isAgg91 : ∀ (w : Go.World), Go.Sem.run prog (Go.isAgg 91) w = Go.Result.ok true w := by intros; kernel_rfl
@[simp] theorem isAgg92 : ∀ (w : Go.World), Go.Sem.run prog (Go.isAgg 92) w = Go.Result.ok false w := by intros; kernel_rfl
@[simp] theorem isAgg93 : ∀ (w : Go.World), Go.Sem.run prog (Go.isAgg 93) w = Go.Result.ok false w := by intros; kernel_rfl
@[simp] theorem isAgg94 : ∀ (w : Go.World), Go.Sem.run prog (Go.isAgg 94) w = Go.Result.ok true w := by intros; kernel_rfl
@[simp] theorem isAgg95 : ∀ (w : Go.World), Go.Sem.run prog (Go.isAgg 95) w = Go.Result.ok true w := by intros; kernel_rfl
@[simp] theorem isAgg96 : ∀ (w : Go.World), Go.Sem.run prog (Go.isAgg 96) w = Go.Result.ok false w := by intros; kernel_rfl
@[simp] theorem isAgg97 : ∀ (w : Go.World), Go.Sem.run prog (Go.isAgg 97) w = Go.Result.ok false w := by intros; kernel_rfl
@[simp] theorem isAgg98 : ∀ (w : Go.World), Go.Sem.run prog (Go.isAgg 98) w = Go.Result.ok false w := by intros; kernel_rfl
@[simp] theorem isAgg99 : ∀ (w : Go.World), Go.Sem.run prog (Go.isAgg 99) w = Go.Result.ok false w := by intros; kernel_rfl
@[simp] theorem isAgg100 : ∀ (w : Go.World), Go.Sem.run prog (Go.isAgg 100) w = Go.Result.ok true w := by intros; kernel_rfl
@[simp] theorem isAgg101 : ∀ (w : Go.World), Go.Sem.run prog (Go.isAgg 101) w = Go.Result.ok true w := by intros; kernel_rfl
@[simp] theorem isAgg102 : ∀ (w : Go.World), Go.Sem.run prog (Go.isAgg 102) w = Go.Result.ok false w := by intros; kernel_rfl
@[simp] theorem isAgg103 : ∀ (w : Go.World), Go.Sem.run prog (Go.isAgg 103) w = Go.Result.ok false w := by intros; kernel_rfl
@[simp] theorem isAgg104 : ∀ (w : Go.World), Go.Sem.run prog (Go.isAgg 104) w = Go.Result.ok false w := by intros; kernel_rfl
@[simp] theorem isAgg105 : ∀ (w : Go.World), Go.Sem.run prog (Go.isAgg 105) w = Go.Result.ok false w := by intros; kernel_rfl
@[simp] theorem isAgg106 : ∀ (w : Go.World), Go.Sem.run prog (Go.isAgg 106) w = Go.Result.ok false w := by intros; kernel_rfl
@[simp] theorem isAgg107 : ∀ (w : Go.World), Go.Sem.run prog (Go.isAgg 107) w = Go.Result.ok false w := by intros; kernel_rfl
@[simp] theorem isAgg108 : ∀ (w : Go.World), Go.Sem.run prog (Go.isAgg 108) w = Go.Result.ok false w := by intros; kernel_rfl
@[simp] theorem isAgg109 : ∀ (w : Go.World), Go.Sem.run prog (Go.isAgg 109) w = Go.Result.ok false w := by intros; kernel_rfl
@[simp] theorem isAgg110 : ∀ (w : Go.World), Go.Sem.run prog (Go.isAgg 110) w = Go.Result.ok false w := by intros; kernel_rfl
@[simp] theorem isAgg111 : ∀ (w : Go.World), Go.Sem.run prog (Go.isAgg 111) w = Go.Result.ok false w := by intros; kernel_rfl
@[simp] theorem isAgg112 : ∀ (w : Go.World), Go.Sem.run prog (Go.isAgg 112) w = Go.Result.ok false w := by intros; kernel_rfl
@[simp] theorem isAgg113 : ∀ (w : Go.World), Go.Sem.run prog (Go.isAgg 113) w = Go.Result.ok false w := by intros; kernel_rfl
@[simp] theorem isAgg114 : ∀ (w : Go.World), Go.Sem.run prog (Go.isAgg 114) w = Go.Result.ok false w := by intros; kernel_rfl
@[simp] theorem isAgg115 : ∀ (w : Go.World), Go.Sem.run prog (Go.isAgg 115) w = Go.Result.ok false w := by intros; kernel_rfl
@[simp] theorem isAgg116 : ∀ (w : Go.World), Go.Sem.run prog (Go.isAgg 116) w = Go.Result.ok false w := by intros; kernel_rfl
@[simp] theorem isAgg117 : ∀ (w : Go.World), Go.Sem.run prog (Go.isAgg 117) w = Go.Result.ok true w := by intros; kernel_rfl
@[simp] theorem isAgg118 : ∀ (w : Go.World), Go.Sem.run prog (Go.isAgg 118) w = Go.Result.ok true w := by intros; kernel_rfl
@[simp] theorem isAgg119 : ∀ (w : Go.World), Go.Sem.run prog (Go.isAgg 119) w = Go.Result.ok true w := by intros; kernel_rfl
@[simp] theorem isAgg120 : ∀ (w : Go.World), Go.Sem.run prog (Go.isAgg 120) w = Go.Result.ok true w := by intros; kernel_rfl
@[simp] theorem isAgg121 : ∀ (w : Go.World), Go.Sem.run prog (Go.isAgg 121) w = Go.Result.ok false w := by intros; kernel_rfl
@[simp] theorem isAgg122 : ∀ (w : Go.World), Go.Sem.run prog (Go.isAgg 122) w = Go.Result.ok true w := by intros; kernel_rfl
@[simp] theorem isAgg123 : ∀ (w : Go.World), Go.Sem.run prog (Go.isAgg 123) w = Go.Result.ok true w := by intros; kernel_rfl
@[simp] theorem isAgg124 : ∀ (w : Go.World), Go.Sem.run prog (Go.isAgg 124) w = Go.Result.ok false w := by intros; kernel_rfl
@[simp] theorem isAgg125 : ∀ (w : Go.World), Go.Sem.run prog (Go.isAgg 125) w = Go.Result.ok true w := by intros; kernel_rfl
@[simp] theorem isAgg126 : ∀ (w : Go.World), Go.Sem.run prog (Go.isAgg 126) w = Go.Result.ok true w := by intros; kernel_rfl
@[simp] theorem isAgg127 : ∀ (w : Go.World), Go.Sem.run prog (Go.isAgg 127) w = Go.Result.ok false w := by intros; kernel_rfl
@[simp] theorem isAgg128 : ∀ (w : Go.World), Go.Sem.run prog (Go.isAgg 128) w = Go.Result.ok false w := by intros; kernel_rfl
@[simp] theorem isAgg129 : ∀ (w : Go.World), Go.Sem.run prog (Go.isAgg 129) w = Go.Result.ok false w := by intros; kernel_rfl
@[simp] theorem isAgg130 : ∀ (w : Go.World), Go.Sem.run prog (Go.isAgg 130) w = Go.Result.ok false w := by intros; kernel_rfl
@[simp] theorem isAgg131 : ∀ (w : Go.World), Go.Sem.run prog (Go.isAgg 131) w = Go.Result.ok false w := by intros; kernel_rfl
@[simp] theorem isAgg132 : ∀ (w : Go.World), Go.Sem.run prog (Go.isAgg 132) w = Go.Result.ok false w := by intros; kernel_rfl
@[simp] theorem isAgg133 : ∀ (w : Go.World), Go.Sem.run prog (Go.isAgg 133) w = Go.Result.ok false w := by intros; kernel_rfl
@[simp] theorem isAgg134 : ∀ (w : Go.World), Go.Sem.run prog (Go.isAgg 134) w = Go.Result.ok false w := by intros; kernel_rfl
@[simp] theorem isAgg135 : ∀ (w : Go.World), Go.Sem.run prog (Go.isAgg 135) w = Go.Result.ok false w := by intros; kernel_rfl
@[simp] theorem isAgg136 : ∀ (w : Go.World), Go.Sem.run prog (Go.isAgg 136) w = Go.Result.ok false w := by intros; kernel_rfl
@[simp] theorem isAgg137 : ∀ (w : Go.World), Go.Sem.run prog (Go.isAgg 137) w = Go.Result.ok false w := by intros; kernel_rfl
@[simp] theorem isAgg138 : ∀ (w : Go.World), Go.Sem.run prog (Go.isAgg 138) w = Go.Result.ok false w := by intros; kernel_rfl
@[simp] theorem isAgg139 : ∀ (w : Go.World), Go.Sem.run prog (Go.isAgg 139) w = Go.Result.ok false w := by intros; kernel_rfl
@[simp] theorem isAgg140 : ∀ (w : Go.World), Go.Sem.run prog (Go.isAgg 140) w = Go.Result.ok false w := by intros; kernel_rfl
@[simp] theorem isAgg141 : ∀ (w : Go.World), Go.Sem.run prog (Go.isAgg 141) w = Go.Result.ok false w := by intros; kernel_rfl
@[simp] theorem isAgg142 : ∀ (w : Go.World), Go.Sem.run prog (Go.isAgg 142) w = Go.Result.ok false w := by intros; kernel_rfl
@[simp] theorem isAgg143 : ∀ (w : Go.World), Go.Sem.run prog (Go.isAgg 143) w = Go.Result.ok false w := by intros; kernel_rfl
@[simp] theorem isAgg144 : ∀ (w : Go.World), Go.Sem.run prog (Go.isAgg 144) w = Go.Result.ok false w := by intros; kernel_rfl
@[simp] theorem isAgg145 : ∀ (w : Go.World), Go.Sem.run prog (Go.isAgg 145) w = Go.Result.ok false w := by intros; kernel_rfl
@[simp] theorem isAgg146 : ∀ (w : Go.World), Go.Sem.run prog (Go.isAgg 146) w = Go.Result.ok false w := by intros; kernel_rfl
@[simp] theorem isAgg147 : ∀ (w : Go.World), Go.Sem.run prog (Go.isAgg 147) w = Go.Result.ok false w := by intros; kernel_rfl
@[simp] theorem isAgg148 : ∀ (w : Go.World), Go.Sem.run prog (Go.isAgg 148) w = Go.Result.ok false w := by intros; kernel_rfl
@[simp] theorem isAgg149 : ∀ (w : Go.World), Go.Sem.run prog (Go.isAgg 149) w = Go.Result.ok false w := by intros; kernel_rfl
@[simp] theorem isAgg150 : ∀ (w : Go.World), Go.Sem.run prog (Go.isAgg 150) w = Go.Result.ok false w := by intros; kernel_rfl
@[simp] theorem isAgg151 : ∀ (w : Go.World), Go.Sem.run prog (Go.isAgg 151) w = Go.Result.ok false w := by intros; kernel_rfl
@[simp] theorem isAgg152 : ∀ (w : Go.World), Go.Sem.run prog (Go.isAgg 152) w = Go.Result.ok false w := by intros; kernel_rfl
@[simp] theorem isAgg153 : ∀ (w : Go.World), Go.Sem.run prog (Go.isAgg 153) w = Go.Result.ok false w := by intros; kernel_rfl
@[simp] theorem isAgg154 : ∀ (w : Go.World), Go.Sem.run prog (Go.isAgg 154) w = Go.Result.ok false w := by intros; kernel_rfl
@[simp] theorem isAgg155 : ∀ (w : Go.World), Go.Sem.run prog (Go.isAgg 155) w = Go.Result.ok false w := by intros; kernel_rfl
@[simp] theorem isAgg156 : ∀ (w : Go.World), Go.Sem.run prog (Go.isAgg 156) w = Go.Result.ok false w := by intros; kernel_rfl
@[simp] theorem isAgg157 : ∀ (w : Go.World), Go.Sem.run prog (Go.isAgg 157) w = Go.Result.ok false w := by intros; kernel_rfl
@[simp] theorem isAgg158 : ∀ (w : Go.World), Go.Sem.run prog (Go.isAgg 158) w = Go.Result.ok false w := by intros; kernel_rfl
@[simp] theorem isAgg159 : ∀ (w : Go.World), Go.Sem.run prog (Go.isAgg 159) w = Go.Result.ok false w := by intros; kernel_rfl
@[simp] theorem isAgg160 : ∀ (w : Go.World), Go.Sem.run prog (Go.isAgg 160) w = Go.Result.ok false w := by intros; kernel_rfl
@[simp] theorem isAgg161 : ∀ (w : Go.World), Go.Sem.run prog (Go.isAgg 161) w = Go.Result.ok false w := by intros; kernel_rfl
@[simp] theorem isAgg162 : ∀ (w : Go.World), Go.Sem.run prog (Go.isAgg 162) w = Go.Result.ok true w := by intros; kernel_rfl
@[simp] theorem isAgg163 : ∀ (w : Go.World), Go.Sem.run prog (Go.isAgg 163) w = Go.Result.ok true w := by intros; kernel_rfl
@[simp] theorem isAgg164 : ∀ (w : Go.World), Go.Sem.run prog (Go.isAgg 164) w = Go.Result.ok true w := by intros; kernel_rfl
@[simp] theorem isAgg165 : ∀ (w : Go.World), Go.Sem.run prog (Go.isAgg 165) w = Go.Result.ok true w := by intros; kernel_rfl
@[simp] theorem isAgg166 : ∀ (w : Go.World), Go.Sem.run prog (Go.isAgg 166) w = Go.Result.ok true w := by intros; kernel_rfl
@[simp] theorem isAgg167 : ∀ (w : Go.World), Go.Sem.run prog (Go.isAgg 167) w = Go.Result.ok false w := by intros; kernel_rfl
@[simp] theorem isAgg168 : ∀ (w : Go.World), Go.Sem.run prog (Go.isAgg 168) w = Go.Result.ok false w := by intros; kernel_rfl
@[simp] theorem isAgg169 : ∀ (w : Go.World), Go.Sem.run prog (Go.isAgg 169) w = Go.Result.ok false w := by intros; kernel_rfl
@[simp] theorem isAgg170 : ∀ (w : Go.World), Go.Sem.run prog (Go.isAgg 170) w = Go.Result.ok false w := by intros; kernel_rfl
@[simp] theorem isAgg171 : ∀ (w : Go.World), Go.Sem.run prog (Go.isAgg 171) w = Go.Result.ok false w := by intros; kernel_rfl
@[simp] theorem isAgg172 : ∀ (w : Go.World), Go.Sem.run prog (Go.isAgg 172) w = Go.Result.ok false w := by intros; kernel_rfl
@[simp] theorem isAgg173 : ∀ (w : Go.World), Go.Sem.run prog (Go.isAgg 173) w = Go.Result.ok false w := by intros; kernel_rfl
@[simp] theorem isAgg174 : ∀ (w : Go.World), Go.Sem.run prog (Go.isAgg 174) w = Go.Result.ok true w := by intros; kernel_rfl
@[simp] theorem isAgg175 : ∀ (w : Go.World), Go.Sem.run prog (Go.isAgg 175) w = Go.Result.ok true w := by intros; kernel_rfl
@[simp] theorem isAgg176 : ∀ (w : Go.World), Go.Sem.run prog (Go.isAgg 176) w = Go.Result.ok false w := by intros; kernel_rfl
@[simp] theorem isAgg177 : ∀ (w : Go.World), Go.Sem.run prog (Go.isAgg 177) w = Go.Result.ok false w := by intros; kernel_rfl
@[simp] theorem isAgg178 : ∀ (w : Go.World), Go.Sem.run prog (Go.isAgg 178) w = Go.Result.ok false w := by intros; kernel_rfl
theorem ntmps0 : Try.f0.ntmps = 0 := Try.ntmps0
theorem ntmps1 : Try.f1.ntmps = 0 := Try.ntmps1
theorem ntmps2 : Try.f2.ntmps = 1 := Try.ntmps2
theorem ntmps3 : Try.f3.ntmps = 38 := Try.ntmps3
theorem ntmps4 : Try.f4.ntmps = 92 := Try.ntmps4
theorem ntmps5 : Try.f5.ntmps = 22 := Try.ntmps5
theorem ntmps6 : Try.f6.ntmps = 84 := Try.ntmps6
theorem ntmps7 : Try.f7.ntmps = 26 := Try.ntmps7
theorem ntmps8 : Try.f8.ntmps = 37 := Try.ntmps8
theorem ntmps9 : Try.f9.ntmps = 12 := Try.ntmps9
theorem ntmps10 : Try.f10.ntmps = 34 := Try.ntmps10
theorem ntmps11 : Try.f11.ntmps = 103 := Try.ntmps11
theorem ntmps12 : Try.f12.ntmps = 32 := Try.ntmps12
theorem ntmps13 : Try.f13.ntmps = 16 := Try.ntmps13
theorem ntmps14 : Try.f14.ntmps = 10 := Try.ntmps14
theorem ntmps15 : Try.f15.ntmps = 27 := Try.ntmps15
theorem ntmps16 : Try.f16.ntmps = 27 := Try.ntmps16
theorem ntmps17 : Try.f17.ntmps = 26 := Try.ntmps17
theorem ntmps18 : Try.f18.ntmps = 24 := Try.ntmps18
theorem ntmps19 : Try.f19.ntmps = 12 := Try.ntmps19
theorem ntmps20 : Try.f20.ntmps = 89 := Try.ntmps20
theorem ntmps21 : Try.f21.ntmps = 58 := Try.ntmps21
theorem ntmps22 : Try.f22.ntmps = 60 := Try.ntmps22
theorem ntmps23 : Try.f23.ntmps = 59 := Try.ntmps23
theorem ntmps24 : Try.f24.ntmps = 11 := Try.ntmps24
theorem ntmps25 : Try.f25.ntmps = 94 := Try.ntmps25
theorem ntmps26 : Try.f26.ntmps = 62 := Try.ntmps26
theorem ntmps27 : Try.f27.ntmps = 87 := Try.ntmps27
theorem ntmps28 : Try.f28.ntmps = 30 := Try.ntmps28
theorem ntmps29 : Try.f29.ntmps = 24 := Try.ntmps29
theorem ntmps30 : Try.f30.ntmps = 20 := Try.ntmps30
theorem ntmps31 : Try.f31.ntmps = 16 := Try.ntmps31
theorem ntmps32 : Try.f32.ntmps = 24 := Try.ntmps32
theorem ntmps33 : Try.f33.ntmps = 9 := Try.ntmps33
theorem ntmps34 : Try.f34.ntmps = 26 := Try.ntmps34
theorem ntmps35 : Try.f35.ntmps = 31 := Try.ntmps35
theorem ntmps36 : Try.f36.ntmps = 26 := Try.ntmps36
theorem ntmps37 : Try.f37.ntmps = 5 := Try.ntmps37
theorem ntmps38 : Try.f38.ntmps = 5 := Try.ntmps38
theorem ntmps39 : Try.f39.ntmps = 54 := Try.ntmps39
theorem ntmps40 : Try.f40.ntmps = 15 := Try.ntmps40
theorem ntmps41 : Try.f41.ntmps = 58 := Try.ntmps41
theorem ntmps42 : Try.f42.ntmps = 8 := Try.ntmps42
theorem ntmps43 : Try.f43.ntmps = 17 := Try.ntmps43
theorem ntmps44 : Try.f44.ntmps = 70 := Try.ntmps44
theorem ntmps45 : Try.f45.ntmps = 22 := Try.ntmps45
theorem ntmps46 : Try.f46.ntmps = 21 := Try.ntmps46
theorem ntmps47 : Try.f47.ntmps = 99 := Try.ntmps47
theorem ntmps48 : Try.f48.ntmps = 123 := Try.ntmps48
theorem ntmps49 : Try.f49.ntmps = 9 := Try.ntmps49
theorem ntmps50 : Try.f50.ntmps = 60 := Try.ntmps50
theorem ntmps51 : Try.f51.ntmps = 10 := Try.ntmps51
theorem ntmps52 : Try.f52.ntmps = 2 := Try.ntmps52
theorem ntmps53 : Try.f53.ntmps = 15 := Try.ntmps53
theorem ntmps54 : Try.f54.ntmps = 71 := Try.ntmps54
theorem ntmps55 : Try.f55.ntmps = 20 := Try.ntmps55
theorem ntmps56 : Try.f56.ntmps = 26 := Try.ntmps56
theorem ntmps57 : Try.f57.ntmps = 14 := Try.ntmps57
theorem ntmps58 : Try.f58.ntmps = 8 := Try.ntmps58
theorem ntmps59 : Try.f59.ntmps = 9 := Try.ntmps59
theorem ntmps60 : Try.f60.ntmps = 18 := Try.ntmps60
theorem ntmps61 : Try.f61.ntmps = 13 := Try.ntmps61
theorem ntmps62 : Try.f62.ntmps = 51 := Try.ntmps62
theorem ntmps63 : Try.f63.ntmps = 23 := Try.ntmps63
theorem ntmps64 : Try.f64.ntmps = 84 := Try.ntmps64
theorem ntmps65 : Try.f65.ntmps = 14 := Try.ntmps65
theorem ntmps66 : Try.f66.ntmps = 69 := Try.ntmps66
theorem ntmps67 : Try.f67.ntmps = 141 := Try.ntmps67
theorem ntmps68 : Try.f68.ntmps = 27 := Try.ntmps68
theorem ntmps69 : Try.f69.ntmps = 24 := Try.ntmps69
theorem ntmps70 : Try.f70.ntmps = 19 := Try.ntmps70
theorem ntmps71 : Try.f71.ntmps = 5 := Try.ntmps71
theorem ntmps72 : Try.f72.ntmps = 11 := Try.ntmps72
theorem ntmps73 : Try.f73.ntmps = 20 := Try.ntmps73
theorem ntmps74 : Try.f74.ntmps = 24 := Try.ntmps74
theorem ntmps75 : Try.f75.ntmps = 50 := Try.ntmps75
theorem ntmps76 : Try.f76.ntmps = 20 := Try.ntmps76
theorem ntmps77 : Try.f77.ntmps = 21 := Try.ntmps77
theorem ntmps78 : Try.f78.ntmps = 23 := Try.ntmps78
theorem ntmps79 : Try.f79.ntmps = 49 := Try.ntmps79
theorem ntmps80 : Try.f80.ntmps = 70 := Try.ntmps80
theorem ntmps81 : Try.f81.ntmps = 117 := Try.ntmps81
theorem ntmps82 : Try.f82.ntmps = 11 := Try.ntmps82
theorem ntmps83 : Try.f83.ntmps = 4 := Try.ntmps83
theorem ntmps84 : Try.f84.ntmps = 84 := Try.ntmps84
theorem ntmps85 : Try.f85.ntmps = 14 := Try.ntmps85
theorem ntmps86 : Try.f86.ntmps = 35 := Try.ntmps86
theorem ntmps87 : Try.f87.ntmps = 18 := Try.ntmps87
theorem ntmps88 : Try.f88.ntmps = 103 := Try.ntmps88
theorem ntmps89 : Try.f89.ntmps = 44 := Try.ntmps89
theorem ntmps90 : Try.f90.ntmps = 52 := Try.ntmps90
theorem ntmps91 : Try.f91.ntmps = 115 := Try.ntmps91
theorem ntmps92 : Try.f92.ntmps = 1 := Try.ntmps92
theorem ntmps93 : Try.f93.ntmps = 0 := Try.ntmps93
theorem ntmps94 : Try.f94.ntmps = 0 := Try.ntmps94
theorem ntmps95 : Try.f95.ntmps = 0 := Try.ntmps95
theorem ntmps96 : Try.f96.ntmps = 1 := Try.ntmps96
theorem ntmps97 : Try.f97.ntmps = 1 := Try.ntmps97
theorem ntmps98 : Try.f98.ntmps = 10 := Try.ntmps98
theorem ntmps99 : Try.f99.ntmps = 10 := Try.ntmps99
theorem ntmps100 : Try.f100.ntmps = 1 := Try.ntmps100
theorem ntmps101 : Try.f101.ntmps = 7 := Try.ntmps101
theorem ntmps102 : Try.f102.ntmps = 9 := Try.ntmps102
theorem ntmps103 : Try.f103.ntmps = 1 := Try.ntmps103
theorem ntmps104 : Try.f104.ntmps = 3 := Try.ntmps104
theorem ntmps105 : Try.f105.ntmps = 1 := Try.ntmps105
theorem ntmps106 : Try.f106.ntmps = 1 := Try.ntmps106
theorem ntmps107 : Try.f107.ntmps = 13 := Try.ntmps107
theorem ntmps108 : Try.f108.ntmps = 1 := Try.ntmps108
theorem ntmps109 : Try.f109.ntmps = 2 := Try.ntmps109
theorem ntmps110 : Try.f110.ntmps = 69 := Try.ntmps110
theorem ntmps111 : Try.f111.ntmps = 15 := Try.ntmps111
theorem ntmps112 : Try.f112.ntmps = 58 := Try.ntmps112
theorem ntmps113 : Try.f113.ntmps = 52 := Try.ntmps113
theorem ntmps114 : Try.f114.ntmps = 2 := Try.ntmps114
theorem ntmps115 : Try.f115.ntmps = 2 := Try.ntmps115
theorem ntmps116 : Try.f116.ntmps = 1 := Try.ntmps116
theorem ntmps117 : Try.f117.ntmps = 2 := Try.ntmps117
theorem ntmps118 : Try.f118.ntmps = 3 := Try.ntmps118
theorem ntmps119 : Try.f119.ntmps = 18 := Try.ntmps119
theorem ntmps120 : Try.f120.ntmps = 25 := Try.ntmps120
theorem ntmps121 : Try.f121.ntmps = 1 := Try.ntmps121
theorem ntmps122 : Try.f122.ntmps = 1 := Try.ntmps122
theorem ntmps123 : Try.f123.ntmps = 1 := Try.ntmps123
theorem ntmps124 : Try.f124.ntmps = 1 := Try.ntmps124
theorem ntmps125 : Try.f125.ntmps = 1 := Try.ntmps125
theorem ntmps126 : Try.f126.ntmps = 1 := Try.ntmps126
theorem ntmps127 : Try.f127.ntmps = 1 := Try.ntmps127
theorem ntmps128 : Try.f128.ntmps = 1 := Try.ntmps128
theorem ntmps129 : Try.f129.ntmps = 1 := Try.ntmps129
theorem ntmps130 : Try.f130.ntmps = 1 := Try.ntmps130
theorem ntmps131 : Try.f131.ntmps = 1 := Try.ntmps131
theorem ntmps132 : Try.f132.ntmps = 1 := Try.ntmps132
theorem ntmps133 : Try.f133.ntmps = 1 := Try.ntmps133
theorem ntmps134 : Try.f134.ntmps = 1 := Try.ntmps134
theorem ntmps135 : Try.f135.ntmps = 1 := Try.ntmps135
theorem ntmps136 : Try.f136.ntmps = 1 := Try.ntmps136
theorem ntmps137 : Try.f137.ntmps = 1 := Try.ntmps137
@[simp] theorem rt_eq : prog.rt = { boundsError := 8, errorString := 10, plainError := 11, errorAddressString := 14, typeAssertionError := 15, panicNilError := 16, unhashableTypeError := 19, string := 9, any := 20, int := 3, bool := 4, rune := 21, byte := 5 } := by kernel_rfl
@[simp] theorem runUnderlying0 : ∀ (w : Go.World), Go.Sem.run prog (Go.underlying 0) w = Go.Result.ok (Go.TypeDesc.tuple #[]) w := by intros; kernel_rfl
@[simp] theorem runUnderlying1 : ∀ (w : Go.World), Go.Sem.run prog (Go.underlying 1) w = Go.Result.ok (Go.TypeDesc.func #[] #[] false) w := by intros; kernel_rfl
@[simp] theorem runUnderlying2 : ∀ (w : Go.World), Go.Sem.run prog (Go.underlying 2) w = Go.Result.ok (Go.TypeDesc.int Go.IntKind.i64) w := by intros; kernel_rfl
@[simp] theorem runUnderlying3 : ∀ (w : Go.World), Go.Sem.run prog (Go.underlying 3) w = Go.Result.ok (Go.TypeDesc.int Go.IntKind.i64) w := by intros; kernel_rfl
@[simp] theorem runUnderlying4 : ∀ (w : Go.World), Go.Sem.run prog (Go.underlying 4) w = Go.Result.ok Go.TypeDesc.bool w := by intros; kernel_rfl
@[simp] theorem runUnderlying5 : ∀ (w : Go.World), Go.Sem.run prog (Go.underlying 5) w = Go.Result.ok (Go.TypeDesc.int Go.IntKind.u8) w := by intros; kernel_rfl
@[simp] theorem runUnderlying6 : ∀ (w : Go.World), Go.Sem.run prog (Go.underlying 6) w = Go.Result.ok (Go.TypeDesc.int Go.IntKind.u8) w := by intros; kernel_rfl
@[simp] theorem runUnderlying7 : ∀ (w : Go.World), Go.Sem.run prog (Go.underlying 7) w = Go.Result.ok (Go.TypeDesc.struct #[{ name := "x", type := 2, offset := 0, embedded := false, tag := "", pkgPath := "runtime", byteOffset := 0 }, { name := "y", type := 3, offset := 1, embedded := false, tag := "", pkgPath := "runtime", byteOffset := 8 }, { name := "signed", type := 4, offset := 2, embedded := false, tag := "", pkgPath := "runtime", byteOffset := 16 }, { name := "code", type := 6, offset := 3, embedded := false, tag := "", pkgPath := "runtime", byteOffset := 17 }]) w := by intros; kernel_rfl
@[simp] theorem runUnderlying8 : ∀ (w : Go.World), Go.Sem.run prog (Go.underlying 8) w = Go.Result.ok (Go.TypeDesc.struct #[{ name := "x", type := 2, offset := 0, embedded := false, tag := "", pkgPath := "runtime", byteOffset := 0 }, { name := "y", type := 3, offset := 1, embedded := false, tag := "", pkgPath := "runtime", byteOffset := 8 }, { name := "signed", type := 4, offset := 2, embedded := false, tag := "", pkgPath := "runtime", byteOffset := 16 }, { name := "code", type := 6, offset := 3, embedded := false, tag := "", pkgPath := "runtime", byteOffset := 17 }]) w := by intros; kernel_rfl
@[simp] theorem runUnderlying9 : ∀ (w : Go.World), Go.Sem.run prog (Go.underlying 9) w = Go.Result.ok Go.TypeDesc.string w := by intros; kernel_rfl
@[simp] theorem runUnderlying10 : ∀ (w : Go.World), Go.Sem.run prog (Go.underlying 10) w = Go.Result.ok Go.TypeDesc.string w := by intros; kernel_rfl
@[simp] theorem runUnderlying11 : ∀ (w : Go.World), Go.Sem.run prog (Go.underlying 11) w = Go.Result.ok Go.TypeDesc.string w := by intros; kernel_rfl
@[simp] theorem runUnderlying12 : ∀ (w : Go.World), Go.Sem.run prog (Go.underlying 12) w = Go.Result.ok (Go.TypeDesc.int Go.IntKind.u64) w := by intros; kernel_rfl
@[simp] theorem runUnderlying13 : ∀ (w : Go.World), Go.Sem.run prog (Go.underlying 13) w = Go.Result.ok (Go.TypeDesc.struct #[{ name := "msg", type := 9, offset := 0, embedded := false, tag := "", pkgPath := "runtime", byteOffset := 0 }, { name := "addr", type := 12, offset := 1, embedded := false, tag := "", pkgPath := "runtime", byteOffset := 16 }]) w := by intros; kernel_rfl
@[simp] theorem runUnderlying14 : ∀ (w : Go.World), Go.Sem.run prog (Go.underlying 14) w = Go.Result.ok (Go.TypeDesc.struct #[{ name := "msg", type := 9, offset := 0, embedded := false, tag := "", pkgPath := "runtime", byteOffset := 0 }, { name := "addr", type := 12, offset := 1, embedded := false, tag := "", pkgPath := "runtime", byteOffset := 16 }]) w := by intros; kernel_rfl
@[simp] theorem runUnderlying15 : ∀ (w : Go.World), Go.Sem.run prog (Go.underlying 15) w = Go.Result.ok (Go.TypeDesc.pointer 163) w := by intros; kernel_rfl
@[simp] theorem runUnderlying16 : ∀ (w : Go.World), Go.Sem.run prog (Go.underlying 16) w = Go.Result.ok (Go.TypeDesc.pointer 166) w := by intros; kernel_rfl
@[simp] theorem runUnderlying17 : ∀ (w : Go.World), Go.Sem.run prog (Go.underlying 17) w = Go.Result.ok (Go.TypeDesc.pointer 175) w := by intros; kernel_rfl
@[simp] theorem runUnderlying18 : ∀ (w : Go.World), Go.Sem.run prog (Go.underlying 18) w = Go.Result.ok (Go.TypeDesc.struct #[{ name := "typ", type := 17, offset := 0, embedded := false, tag := "", pkgPath := "internal/runtime/maps", byteOffset := 0 }]) w := by intros; kernel_rfl
@[simp] theorem runUnderlying19 : ∀ (w : Go.World), Go.Sem.run prog (Go.underlying 19) w = Go.Result.ok (Go.TypeDesc.struct #[{ name := "typ", type := 17, offset := 0, embedded := false, tag := "", pkgPath := "internal/runtime/maps", byteOffset := 0 }]) w := by intros; kernel_rfl
@[simp] theorem runUnderlying20 : ∀ (w : Go.World), Go.Sem.run prog (Go.underlying 20) w = Go.Result.ok (Go.TypeDesc.interface #[]) w := by intros; kernel_rfl
@[simp] theorem runUnderlying21 : ∀ (w : Go.World), Go.Sem.run prog (Go.underlying 21) w = Go.Result.ok (Go.TypeDesc.int Go.IntKind.i32) w := by intros; kernel_rfl
@[simp] theorem runUnderlying22 : ∀ (w : Go.World), Go.Sem.run prog (Go.underlying 22) w = Go.Result.ok (Go.TypeDesc.slice 5) w := by intros; kernel_rfl
@[simp] theorem runUnderlying23 : ∀ (w : Go.World), Go.Sem.run prog (Go.underlying 23) w = Go.Result.ok (Go.TypeDesc.slice 52) w := by intros; kernel_rfl
@[simp] theorem runUnderlying24 : ∀ (w : Go.World), Go.Sem.run prog (Go.underlying 24) w = Go.Result.ok (Go.TypeDesc.slice 44) w := by intros; kernel_rfl
@[simp] theorem runUnderlying25 : ∀ (w : Go.World), Go.Sem.run prog (Go.underlying 25) w = Go.Result.ok (Go.TypeDesc.slice 55) w := by intros; kernel_rfl
@[simp] theorem runUnderlying26 : ∀ (w : Go.World), Go.Sem.run prog (Go.underlying 26) w = Go.Result.ok (Go.TypeDesc.slice 4) w := by intros; kernel_rfl
@[simp] theorem runUnderlying27 : ∀ (w : Go.World), Go.Sem.run prog (Go.underlying 27) w = Go.Result.ok (Go.TypeDesc.slice 57) w := by intros; kernel_rfl
@[simp] theorem runUnderlying28 : ∀ (w : Go.World), Go.Sem.run prog (Go.underlying 28) w = Go.Result.ok (Go.TypeDesc.struct #[{ name := "Sets", type := 23, offset := 0, embedded := false, tag := "", pkgPath := "", byteOffset := 0 }, { name := "Groups", type := 24, offset := 1, embedded := false, tag := "", pkgPath := "", byteOffset := 24 }, { name := "Rounds", type := 25, offset := 2, embedded := false, tag := "", pkgPath := "", byteOffset := 48 }, { name := "Stopped", type := 26, offset := 3, embedded := false, tag := "", pkgPath := "", byteOffset := 72 }, { name := "Net", type := 27, offset := 4, embedded := false, tag := "", pkgPath := "", byteOffset := 96 }]) w := by intros; kernel_rfl
@[simp] theorem runUnderlying29 : ∀ (w : Go.World), Go.Sem.run prog (Go.underlying 29) w = Go.Result.ok (Go.TypeDesc.struct #[{ name := "Sets", type := 23, offset := 0, embedded := false, tag := "", pkgPath := "", byteOffset := 0 }, { name := "Groups", type := 24, offset := 1, embedded := false, tag := "", pkgPath := "", byteOffset := 24 }, { name := "Rounds", type := 25, offset := 2, embedded := false, tag := "", pkgPath := "", byteOffset := 48 }, { name := "Stopped", type := 26, offset := 3, embedded := false, tag := "", pkgPath := "", byteOffset := 72 }, { name := "Net", type := 27, offset := 4, embedded := false, tag := "", pkgPath := "", byteOffset := 96 }]) w := by intros; kernel_rfl
@[simp] theorem runUnderlying30 : ∀ (w : Go.World), Go.Sem.run prog (Go.underlying 30) w = Go.Result.ok (Go.TypeDesc.func #[] #[29] false) w := by intros; kernel_rfl
@[simp] theorem runUnderlying31 : ∀ (w : Go.World), Go.Sem.run prog (Go.underlying 31) w = Go.Result.ok (Go.TypeDesc.func #[29, 29] #[4] false) w := by intros; kernel_rfl
@[simp] theorem runUnderlying32 : ∀ (w : Go.World), Go.Sem.run prog (Go.underlying 32) w = Go.Result.ok (Go.TypeDesc.func #[29] #[4] false) w := by intros; kernel_rfl
@[simp] theorem runUnderlying33 : ∀ (w : Go.World), Go.Sem.run prog (Go.underlying 33) w = Go.Result.ok (Go.TypeDesc.func #[22] #[4] false) w := by intros; kernel_rfl
@[simp] theorem runUnderlying34 : ∀ (w : Go.World), Go.Sem.run prog (Go.underlying 34) w = Go.Result.ok (Go.TypeDesc.func #[22] #[24] false) w := by intros; kernel_rfl
@[simp] theorem runUnderlying35 : ∀ (w : Go.World), Go.Sem.run prog (Go.underlying 35) w = Go.Result.ok (Go.TypeDesc.func #[24] #[4] false) w := by intros; kernel_rfl
@[simp] theorem runUnderlying36 : ∀ (w : Go.World), Go.Sem.run prog (Go.underlying 36) w = Go.Result.ok (Go.TypeDesc.struct #[{ name := "Time", type := 3, offset := 0, embedded := false, tag := "", pkgPath := "", byteOffset := 0 }, { name := "Group", type := 3, offset := 1, embedded := false, tag := "", pkgPath := "", byteOffset := 8 }]) w := by intros; kernel_rfl
@[simp] theorem runUnderlying37 : ∀ (w : Go.World), Go.Sem.run prog (Go.underlying 37) w = Go.Result.ok (Go.TypeDesc.struct #[{ name := "Time", type := 3, offset := 0, embedded := false, tag := "", pkgPath := "", byteOffset := 0 }, { name := "Group", type := 3, offset := 1, embedded := false, tag := "", pkgPath := "", byteOffset := 8 }]) w := by intros; kernel_rfl
@[simp] theorem runUnderlying38 : ∀ (w : Go.World), Go.Sem.run prog (Go.underlying 38) w = Go.Result.ok (Go.TypeDesc.struct #[{ name := "Message", type := 3, offset := 0, embedded := false, tag := "", pkgPath := "", byteOffset := 0 }, { name := "Stamp", type := 37, offset := 1, embedded := false, tag := "", pkgPath := "", byteOffset := 8 }, { name := "Final", type := 4, offset := 3, embedded := false, tag := "", pkgPath := "", byteOffset := 24 }]) w := by intros; kernel_rfl
@[simp] theorem runUnderlying39 : ∀ (w : Go.World), Go.Sem.run prog (Go.underlying 39) w = Go.Result.ok (Go.TypeDesc.struct #[{ name := "Message", type := 3, offset := 0, embedded := false, tag := "", pkgPath := "", byteOffset := 0 }, { name := "Stamp", type := 37, offset := 1, embedded := false, tag := "", pkgPath := "", byteOffset := 8 }, { name := "Final", type := 4, offset := 3, embedded := false, tag := "", pkgPath := "", byteOffset := 24 }]) w := by intros; kernel_rfl
@[simp] theorem runUnderlying40 : ∀ (w : Go.World), Go.Sem.run prog (Go.underlying 40) w = Go.Result.ok (Go.TypeDesc.tuple #[39, 4]) w := by intros; kernel_rfl
@[simp] theorem runUnderlying41 : ∀ (w : Go.World), Go.Sem.run prog (Go.underlying 41) w = Go.Result.ok (Go.TypeDesc.func #[44, 3] #[39, 4] false) w := by intros; kernel_rfl
@[simp] theorem runUnderlying42 : ∀ (w : Go.World), Go.Sem.run prog (Go.underlying 42) w = Go.Result.ok (Go.TypeDesc.slice 39) w := by intros; kernel_rfl
@[simp] theorem runUnderlying43 : ∀ (w : Go.World), Go.Sem.run prog (Go.underlying 43) w = Go.Result.ok (Go.TypeDesc.struct #[{ name := "Id", type := 3, offset := 0, embedded := false, tag := "", pkgPath := "", byteOffset := 0 }, { name := "Clock", type := 3, offset := 1, embedded := false, tag := "", pkgPath := "", byteOffset := 8 }, { name := "Pending", type := 42, offset := 2, embedded := false, tag := "", pkgPath := "", byteOffset := 16 }, { name := "Done", type := 42, offset := 3, embedded := false, tag := "", pkgPath := "", byteOffset := 40 }]) w := by intros; kernel_rfl
@[simp] theorem runUnderlying44 : ∀ (w : Go.World), Go.Sem.run prog (Go.underlying 44) w = Go.Result.ok (Go.TypeDesc.struct #[{ name := "Id", type := 3, offset := 0, embedded := false, tag := "", pkgPath := "", byteOffset := 0 }, { name := "Clock", type := 3, offset := 1, embedded := false, tag := "", pkgPath := "", byteOffset := 8 }, { name := "Pending", type := 42, offset := 2, embedded := false, tag := "", pkgPath := "", byteOffset := 16 }, { name := "Done", type := 42, offset := 3, embedded := false, tag := "", pkgPath := "", byteOffset := 40 }]) w := by intros; kernel_rfl
@[simp] theorem runUnderlying45 : ∀ (w : Go.World), Go.Sem.run prog (Go.underlying 45) w = Go.Result.ok (Go.TypeDesc.func #[37, 37] #[4] false) w := by intros; kernel_rfl
@[simp] theorem runUnderlying46 : ∀ (w : Go.World), Go.Sem.run prog (Go.underlying 46) w = Go.Result.ok (Go.TypeDesc.tuple #[44, 4]) w := by intros; kernel_rfl
@[simp] theorem runUnderlying47 : ∀ (w : Go.World), Go.Sem.run prog (Go.underlying 47) w = Go.Result.ok (Go.TypeDesc.func #[3] #[44, 4] false) w := by intros; kernel_rfl
@[simp] theorem runUnderlying48 : ∀ (w : Go.World), Go.Sem.run prog (Go.underlying 48) w = Go.Result.ok (Go.TypeDesc.func #[23, 23] #[4] false) w := by intros; kernel_rfl
@[simp] theorem runUnderlying49 : ∀ (w : Go.World), Go.Sem.run prog (Go.underlying 49) w = Go.Result.ok (Go.TypeDesc.func #[24, 24] #[4] false) w := by intros; kernel_rfl
@[simp] theorem runUnderlying50 : ∀ (w : Go.World), Go.Sem.run prog (Go.underlying 50) w = Go.Result.ok (Go.TypeDesc.func #[26, 26] #[4] false) w := by intros; kernel_rfl
@[simp] theorem runUnderlying51 : ∀ (w : Go.World), Go.Sem.run prog (Go.underlying 51) w = Go.Result.ok (Go.TypeDesc.func #[55, 55] #[4] false) w := by intros; kernel_rfl
@[simp] theorem runUnderlying52 : ∀ (w : Go.World), Go.Sem.run prog (Go.underlying 52) w = Go.Result.ok (Go.TypeDesc.slice 3) w := by intros; kernel_rfl
@[simp] theorem runUnderlying53 : ∀ (w : Go.World), Go.Sem.run prog (Go.underlying 53) w = Go.Result.ok (Go.TypeDesc.slice 37) w := by intros; kernel_rfl
@[simp] theorem runUnderlying54 : ∀ (w : Go.World), Go.Sem.run prog (Go.underlying 54) w = Go.Result.ok (Go.TypeDesc.struct #[{ name := "Message", type := 3, offset := 0, embedded := false, tag := "", pkgPath := "", byteOffset := 0 }, { name := "Groups", type := 52, offset := 1, embedded := false, tag := "", pkgPath := "", byteOffset := 8 }, { name := "Got", type := 53, offset := 2, embedded := false, tag := "", pkgPath := "", byteOffset := 32 }]) w := by intros; kernel_rfl
@[simp] theorem runUnderlying55 : ∀ (w : Go.World), Go.Sem.run prog (Go.underlying 55) w = Go.Result.ok (Go.TypeDesc.struct #[{ name := "Message", type := 3, offset := 0, embedded := false, tag := "", pkgPath := "", byteOffset := 0 }, { name := "Groups", type := 52, offset := 1, embedded := false, tag := "", pkgPath := "", byteOffset := 8 }, { name := "Got", type := 53, offset := 2, embedded := false, tag := "", pkgPath := "", byteOffset := 32 }]) w := by intros; kernel_rfl
@[simp] theorem runUnderlying56 : ∀ (w : Go.World), Go.Sem.run prog (Go.underlying 56) w = Go.Result.ok (Go.TypeDesc.struct #[{ name := "Kind", type := 3, offset := 0, embedded := false, tag := "", pkgPath := "", byteOffset := 0 }, { name := "Message", type := 3, offset := 1, embedded := false, tag := "", pkgPath := "", byteOffset := 8 }, { name := "Group", type := 3, offset := 2, embedded := false, tag := "", pkgPath := "", byteOffset := 16 }, { name := "Stamp", type := 37, offset := 3, embedded := false, tag := "", pkgPath := "", byteOffset := 24 }]) w := by intros; kernel_rfl
@[simp] theorem runUnderlying57 : ∀ (w : Go.World), Go.Sem.run prog (Go.underlying 57) w = Go.Result.ok (Go.TypeDesc.struct #[{ name := "Kind", type := 3, offset := 0, embedded := false, tag := "", pkgPath := "", byteOffset := 0 }, { name := "Message", type := 3, offset := 1, embedded := false, tag := "", pkgPath := "", byteOffset := 8 }, { name := "Group", type := 3, offset := 2, embedded := false, tag := "", pkgPath := "", byteOffset := 16 }, { name := "Stamp", type := 37, offset := 3, embedded := false, tag := "", pkgPath := "", byteOffset := 24 }]) w := by intros; kernel_rfl
@[simp] theorem runUnderlying58 : ∀ (w : Go.World), Go.Sem.run prog (Go.underlying 58) w = Go.Result.ok (Go.TypeDesc.func #[] #[4] false) w := by intros; kernel_rfl
@[simp] theorem runUnderlying59 : ∀ (w : Go.World), Go.Sem.run prog (Go.underlying 59) w = Go.Result.ok (Go.TypeDesc.func #[57] #[4] false) w := by intros; kernel_rfl
@[simp] theorem runUnderlying60 : ∀ (w : Go.World), Go.Sem.run prog (Go.underlying 60) w = Go.Result.ok (Go.TypeDesc.tuple #[24, 23]) w := by intros; kernel_rfl
@[simp] theorem runUnderlying61 : ∀ (w : Go.World), Go.Sem.run prog (Go.underlying 61) w = Go.Result.ok (Go.TypeDesc.func #[62] #[24, 23] false) w := by intros; kernel_rfl
@[simp] theorem runUnderlying62 : ∀ (w : Go.World), Go.Sem.run prog (Go.underlying 62) w = Go.Result.ok (Go.TypeDesc.pointer 84) w := by intros; kernel_rfl
@[simp] theorem runUnderlying63 : ∀ (w : Go.World), Go.Sem.run prog (Go.underlying 63) w = Go.Result.ok (Go.TypeDesc.func #[22] #[62] false) w := by intros; kernel_rfl
@[simp] theorem runUnderlying64 : ∀ (w : Go.World), Go.Sem.run prog (Go.underlying 64) w = Go.Result.ok (Go.TypeDesc.func #[44] #[4] false) w := by intros; kernel_rfl
@[simp] theorem runUnderlying65 : ∀ (w : Go.World), Go.Sem.run prog (Go.underlying 65) w = Go.Result.ok (Go.TypeDesc.func #[24, 3] #[4] false) w := by intros; kernel_rfl
@[simp] theorem runUnderlying66 : ∀ (w : Go.World), Go.Sem.run prog (Go.underlying 66) w = Go.Result.ok (Go.TypeDesc.array 2 42) w := by intros; kernel_rfl
@[simp] theorem runUnderlying67 : ∀ (w : Go.World), Go.Sem.run prog (Go.underlying 67) w = Go.Result.ok (Go.TypeDesc.func #[42, 3] #[3] false) w := by intros; kernel_rfl
@[simp] theorem runUnderlying68 : ∀ (w : Go.World), Go.Sem.run prog (Go.underlying 68) w = Go.Result.ok (Go.TypeDesc.func #[37] #[4] false) w := by intros; kernel_rfl
@[simp] theorem runUnderlying69 : ∀ (w : Go.World), Go.Sem.run prog (Go.underlying 69) w = Go.Result.ok (Go.TypeDesc.func #[3] #[4] false) w := by intros; kernel_rfl
@[simp] theorem runUnderlying70 : ∀ (w : Go.World), Go.Sem.run prog (Go.underlying 70) w = Go.Result.ok (Go.TypeDesc.func #[52, 52] #[4] false) w := by intros; kernel_rfl
@[simp] theorem runUnderlying71 : ∀ (w : Go.World), Go.Sem.run prog (Go.underlying 71) w = Go.Result.ok (Go.TypeDesc.func #[44, 44] #[4] false) w := by intros; kernel_rfl
@[simp] theorem runUnderlying72 : ∀ (w : Go.World), Go.Sem.run prog (Go.underlying 72) w = Go.Result.ok (Go.TypeDesc.func #[53, 53] #[4] false) w := by intros; kernel_rfl
@[simp] theorem runUnderlying73 : ∀ (w : Go.World), Go.Sem.run prog (Go.underlying 73) w = Go.Result.ok (Go.TypeDesc.func #[52] #[4] false) w := by intros; kernel_rfl
@[simp] theorem runUnderlying74 : ∀ (w : Go.World), Go.Sem.run prog (Go.underlying 74) w = Go.Result.ok (Go.TypeDesc.func #[55] #[4] false) w := by intros; kernel_rfl
@[simp] theorem runUnderlying75 : ∀ (w : Go.World), Go.Sem.run prog (Go.underlying 75) w = Go.Result.ok (Go.TypeDesc.func #[52, 52] #[52] false) w := by intros; kernel_rfl
@[simp] theorem runUnderlying76 : ∀ (w : Go.World), Go.Sem.run prog (Go.underlying 76) w = Go.Result.ok (Go.TypeDesc.func #[3, 37] #[4] false) w := by intros; kernel_rfl
@[simp] theorem runUnderlying77 : ∀ (w : Go.World), Go.Sem.run prog (Go.underlying 77) w = Go.Result.ok (Go.TypeDesc.func #[42] #[42] false) w := by intros; kernel_rfl
@[simp] theorem runUnderlying78 : ∀ (w : Go.World), Go.Sem.run prog (Go.underlying 78) w = Go.Result.ok (Go.TypeDesc.slice 3) w := by intros; kernel_rfl
@[simp] theorem runUnderlying79 : ∀ (w : Go.World), Go.Sem.run prog (Go.underlying 79) w = Go.Result.ok (Go.TypeDesc.func #[62] #[29] false) w := by intros; kernel_rfl
@[simp] theorem runUnderlying80 : ∀ (w : Go.World), Go.Sem.run prog (Go.underlying 80) w = Go.Result.ok (Go.TypeDesc.func #[24] #[24] false) w := by intros; kernel_rfl
@[simp] theorem runUnderlying81 : ∀ (w : Go.World), Go.Sem.run prog (Go.underlying 81) w = Go.Result.ok (Go.TypeDesc.func #[3] #[3] false) w := by intros; kernel_rfl
@[simp] theorem runUnderlying82 : ∀ (w : Go.World), Go.Sem.run prog (Go.underlying 82) w = Go.Result.ok (Go.TypeDesc.func #[62] #[44] false) w := by intros; kernel_rfl
@[simp] theorem runUnderlying83 : ∀ (w : Go.World), Go.Sem.run prog (Go.underlying 83) w = Go.Result.ok (Go.TypeDesc.struct #[{ name := "b", type := 22, offset := 0, embedded := false, tag := "", pkgPath := "loop.example/groupmulticast/spec", byteOffset := 0 }, { name := "p", type := 3, offset := 1, embedded := false, tag := "", pkgPath := "loop.example/groupmulticast/spec", byteOffset := 24 }]) w := by intros; kernel_rfl
@[simp] theorem runUnderlying84 : ∀ (w : Go.World), Go.Sem.run prog (Go.underlying 84) w = Go.Result.ok (Go.TypeDesc.struct #[{ name := "b", type := 22, offset := 0, embedded := false, tag := "", pkgPath := "loop.example/groupmulticast/spec", byteOffset := 0 }, { name := "p", type := 3, offset := 1, embedded := false, tag := "", pkgPath := "loop.example/groupmulticast/spec", byteOffset := 24 }]) w := by intros; kernel_rfl
@[simp] theorem runUnderlying85 : ∀ (w : Go.World), Go.Sem.run prog (Go.underlying 85) w = Go.Result.ok (Go.TypeDesc.func #[44, 42] #[4] false) w := by intros; kernel_rfl
@[simp] theorem runUnderlying86 : ∀ (w : Go.World), Go.Sem.run prog (Go.underlying 86) w = Go.Result.ok (Go.TypeDesc.array 12 4) w := by intros; kernel_rfl
@[simp] theorem runUnderlying87 : ∀ (w : Go.World), Go.Sem.run prog (Go.underlying 87) w = Go.Result.ok (Go.TypeDesc.slice 91) w := by intros; kernel_rfl
@[simp] theorem runUnderlying88 : ∀ (w : Go.World), Go.Sem.run prog (Go.underlying 88) w = Go.Result.ok (Go.TypeDesc.func #[24, 52, 3] #[87] false) w := by intros; kernel_rfl
@[simp] theorem runUnderlying89 : ∀ (w : Go.World), Go.Sem.run prog (Go.underlying 89) w = Go.Result.ok (Go.TypeDesc.func #[] #[52] false) w := by intros; kernel_rfl
@[simp] theorem runUnderlying90 : ∀ (w : Go.World), Go.Sem.run prog (Go.underlying 90) w = Go.Result.ok (Go.TypeDesc.struct #[{ name := "entry", type := 39, offset := 0, embedded := false, tag := "", pkgPath := "loop.example/groupmulticast/impl", byteOffset := 0 }, { name := "known", type := 4, offset := 4, embedded := false, tag := "", pkgPath := "loop.example/groupmulticast/impl", byteOffset := 32 }]) w := by intros; kernel_rfl
@[simp] theorem runUnderlying91 : ∀ (w : Go.World), Go.Sem.run prog (Go.underlying 91) w = Go.Result.ok (Go.TypeDesc.struct #[{ name := "entry", type := 39, offset := 0, embedded := false, tag := "", pkgPath := "loop.example/groupmulticast/impl", byteOffset := 0 }, { name := "known", type := 4, offset := 4, embedded := false, tag := "", pkgPath := "loop.example/groupmulticast/impl", byteOffset := 32 }]) w := by intros; kernel_rfl
@[simp] theorem runUnderlying92 : ∀ (w : Go.World), Go.Sem.run prog (Go.underlying 92) w = Go.Result.ok (Go.TypeDesc.func #[3, 3, 3] #[4] false) w := by intros; kernel_rfl
@[simp] theorem runUnderlying93 : ∀ (w : Go.World), Go.Sem.run prog (Go.underlying 93) w = Go.Result.ok (Go.TypeDesc.func #[42, 42] #[4] false) w := by intros; kernel_rfl
@[simp] theorem runUnderlying94 : ∀ (w : Go.World), Go.Sem.run prog (Go.underlying 94) w = Go.Result.ok (Go.TypeDesc.struct #[{ name := "groupSet", type := 78, offset := 0, embedded := true, tag := "", pkgPath := "loop.example/groupmulticast/impl", byteOffset := 0 }, { name := "got", type := 53, offset := 1, embedded := false, tag := "", pkgPath := "loop.example/groupmulticast/impl", byteOffset := 24 }]) w := by intros; kernel_rfl
@[simp] theorem runUnderlying95 : ∀ (w : Go.World), Go.Sem.run prog (Go.underlying 95) w = Go.Result.ok (Go.TypeDesc.struct #[{ name := "groupSet", type := 78, offset := 0, embedded := true, tag := "", pkgPath := "loop.example/groupmulticast/impl", byteOffset := 0 }, { name := "got", type := 53, offset := 1, embedded := false, tag := "", pkgPath := "loop.example/groupmulticast/impl", byteOffset := 24 }]) w := by intros; kernel_rfl
@[simp] theorem runUnderlying96 : ∀ (w : Go.World), Go.Sem.run prog (Go.underlying 96) w = Go.Result.ok (Go.TypeDesc.func #[] #[95] false) w := by intros; kernel_rfl
@[simp] theorem runUnderlying97 : ∀ (w : Go.World), Go.Sem.run prog (Go.underlying 97) w = Go.Result.ok (Go.TypeDesc.func #[69] #[52] false) w := by intros; kernel_rfl
@[simp] theorem runUnderlying98 : ∀ (w : Go.World), Go.Sem.run prog (Go.underlying 98) w = Go.Result.ok (Go.TypeDesc.func #[29, 3] #[29] false) w := by intros; kernel_rfl
@[simp] theorem runUnderlying99 : ∀ (w : Go.World), Go.Sem.run prog (Go.underlying 99) w = Go.Result.ok (Go.TypeDesc.func #[29, 101] #[29] false) w := by intros; kernel_rfl
@[simp] theorem runUnderlying100 : ∀ (w : Go.World), Go.Sem.run prog (Go.underlying 100) w = Go.Result.ok (Go.TypeDesc.struct #[{ name := "Kind", type := 3, offset := 0, embedded := false, tag := "", pkgPath := "", byteOffset := 0 }, { name := "A", type := 3, offset := 1, embedded := false, tag := "", pkgPath := "", byteOffset := 8 }]) w := by intros; kernel_rfl
@[simp] theorem runUnderlying101 : ∀ (w : Go.World), Go.Sem.run prog (Go.underlying 101) w = Go.Result.ok (Go.TypeDesc.struct #[{ name := "Kind", type := 3, offset := 0, embedded := false, tag := "", pkgPath := "", byteOffset := 0 }, { name := "A", type := 3, offset := 1, embedded := false, tag := "", pkgPath := "", byteOffset := 8 }]) w := by intros; kernel_rfl
@[simp] theorem runUnderlying102 : ∀ (w : Go.World), Go.Sem.run prog (Go.underlying 102) w = Go.Result.ok (Go.TypeDesc.func #[62, 29] #[101] false) w := by intros; kernel_rfl
@[simp] theorem runUnderlying103 : ∀ (w : Go.World), Go.Sem.run prog (Go.underlying 103) w = Go.Result.ok (Go.TypeDesc.func #[44] #[44] false) w := by intros; kernel_rfl
@[simp] theorem runUnderlying104 : ∀ (w : Go.World), Go.Sem.run prog (Go.underlying 104) w = Go.Result.ok (Go.TypeDesc.tuple #[44, 37, 4]) w := by intros; kernel_rfl
@[simp] theorem runUnderlying105 : ∀ (w : Go.World), Go.Sem.run prog (Go.underlying 105) w = Go.Result.ok (Go.TypeDesc.func #[44, 3] #[44, 37, 4] false) w := by intros; kernel_rfl
@[simp] theorem runUnderlying106 : ∀ (w : Go.World), Go.Sem.run prog (Go.underlying 106) w = Go.Result.ok (Go.TypeDesc.tuple #[44, 52, 4]) w := by intros; kernel_rfl
@[simp] theorem runUnderlying107 : ∀ (w : Go.World), Go.Sem.run prog (Go.underlying 107) w = Go.Result.ok (Go.TypeDesc.func #[44, 3, 37] #[44, 52, 4] false) w := by intros; kernel_rfl
@[simp] theorem runUnderlying108 : ∀ (w : Go.World), Go.Sem.run prog (Go.underlying 108) w = Go.Result.ok (Go.TypeDesc.func #[62] #[37] false) w := by intros; kernel_rfl
@[simp] theorem runUnderlying109 : ∀ (w : Go.World), Go.Sem.run prog (Go.underlying 109) w = Go.Result.ok (Go.TypeDesc.func #[52, 110] #[87] false) w := by intros; kernel_rfl
@[simp] theorem runUnderlying110 : ∀ (w : Go.World), Go.Sem.run prog (Go.underlying 110) w = Go.Result.ok (Go.TypeDesc.func #[3] #[91] false) w := by intros; kernel_rfl
@[simp] theorem runUnderlying111 : ∀ (w : Go.World), Go.Sem.run prog (Go.underlying 111) w = Go.Result.ok (Go.TypeDesc.func #[52, 3, 3] #[4] false) w := by intros; kernel_rfl
@[simp] theorem runUnderlying112 : ∀ (w : Go.World), Go.Sem.run prog (Go.underlying 112) w = Go.Result.ok (Go.TypeDesc.func #[29] #[29] false) w := by intros; kernel_rfl
@[simp] theorem runUnderlying113 : ∀ (w : Go.World), Go.Sem.run prog (Go.underlying 113) w = Go.Result.ok (Go.TypeDesc.func #[3] #[52] false) w := by intros; kernel_rfl
@[simp] theorem runUnderlying114 : ∀ (w : Go.World), Go.Sem.run prog (Go.underlying 114) w = Go.Result.ok (Go.TypeDesc.tuple #[55, 4]) w := by intros; kernel_rfl
@[simp] theorem runUnderlying115 : ∀ (w : Go.World), Go.Sem.run prog (Go.underlying 115) w = Go.Result.ok (Go.TypeDesc.func #[3, 52] #[55, 4] false) w := by intros; kernel_rfl
@[simp] theorem runUnderlying116 : ∀ (w : Go.World), Go.Sem.run prog (Go.underlying 116) w = Go.Result.ok (Go.TypeDesc.func #[29, 3, 52] #[29] false) w := by intros; kernel_rfl
@[simp] theorem runUnderlying117 : ∀ (w : Go.World), Go.Sem.run prog (Go.underlying 117) w = Go.Result.ok (Go.TypeDesc.struct #[]) w := by intros; kernel_rfl
@[simp] theorem runUnderlying118 : ∀ (w : Go.World), Go.Sem.run prog (Go.underlying 118) w = Go.Result.ok (Go.TypeDesc.struct #[]) w := by intros; kernel_rfl
@[simp] theorem runUnderlying119 : ∀ (w : Go.World), Go.Sem.run prog (Go.underlying 119) w = Go.Result.ok (Go.TypeDesc.struct #[]) w := by intros; kernel_rfl
@[simp] theorem runUnderlying120 : ∀ (w : Go.World), Go.Sem.run prog (Go.underlying 120) w = Go.Result.ok (Go.TypeDesc.struct #[]) w := by intros; kernel_rfl
@[simp] theorem runUnderlying121 : ∀ (w : Go.World), Go.Sem.run prog (Go.underlying 121) w = Go.Result.ok (Go.TypeDesc.int Go.IntKind.u64) w := by intros; kernel_rfl
@[simp] theorem runUnderlying122 : ∀ (w : Go.World), Go.Sem.run prog (Go.underlying 122) w = Go.Result.ok (Go.TypeDesc.struct #[{ name := "_", type := 119, offset := 0, embedded := false, tag := "", pkgPath := "sync/atomic", byteOffset := 0 }, { name := "_", type := 120, offset := 0, embedded := false, tag := "", pkgPath := "sync/atomic", byteOffset := 0 }, { name := "v", type := 121, offset := 0, embedded := false, tag := "", pkgPath := "sync/atomic", byteOffset := 0 }]) w := by intros; kernel_rfl
@[simp] theorem runUnderlying123 : ∀ (w : Go.World), Go.Sem.run prog (Go.underlying 123) w = Go.Result.ok (Go.TypeDesc.struct #[{ name := "_", type := 119, offset := 0, embedded := false, tag := "", pkgPath := "sync/atomic", byteOffset := 0 }, { name := "_", type := 120, offset := 0, embedded := false, tag := "", pkgPath := "sync/atomic", byteOffset := 0 }, { name := "v", type := 121, offset := 0, embedded := false, tag := "", pkgPath := "sync/atomic", byteOffset := 0 }]) w := by intros; kernel_rfl
@[simp] theorem runUnderlying124 : ∀ (w : Go.World), Go.Sem.run prog (Go.underlying 124) w = Go.Result.ok (Go.TypeDesc.int Go.IntKind.u32) w := by intros; kernel_rfl
@[simp] theorem runUnderlying125 : ∀ (w : Go.World), Go.Sem.run prog (Go.underlying 125) w = Go.Result.ok (Go.TypeDesc.struct #[{ name := "noCopy", type := 118, offset := 0, embedded := false, tag := "", pkgPath := "sync", byteOffset := 0 }, { name := "state", type := 123, offset := 0, embedded := false, tag := "", pkgPath := "sync", byteOffset := 0 }, { name := "sema", type := 124, offset := 1, embedded := false, tag := "", pkgPath := "sync", byteOffset := 8 }]) w := by intros; kernel_rfl
@[simp] theorem runUnderlying126 : ∀ (w : Go.World), Go.Sem.run prog (Go.underlying 126) w = Go.Result.ok (Go.TypeDesc.struct #[{ name := "noCopy", type := 118, offset := 0, embedded := false, tag := "", pkgPath := "sync", byteOffset := 0 }, { name := "state", type := 123, offset := 0, embedded := false, tag := "", pkgPath := "sync", byteOffset := 0 }, { name := "sema", type := 124, offset := 1, embedded := false, tag := "", pkgPath := "sync", byteOffset := 8 }]) w := by intros; kernel_rfl
@[simp] theorem runUnderlying127 : ∀ (w : Go.World), Go.Sem.run prog (Go.underlying 127) w = Go.Result.ok (Go.TypeDesc.func #[3] #[] false) w := by intros; kernel_rfl
@[simp] theorem runUnderlying128 : ∀ (w : Go.World), Go.Sem.run prog (Go.underlying 128) w = Go.Result.ok (Go.TypeDesc.func #[55] #[55] false) w := by intros; kernel_rfl
@[simp] theorem runUnderlying129 : ∀ (w : Go.World), Go.Sem.run prog (Go.underlying 129) w = Go.Result.ok (Go.TypeDesc.func #[29, 57] #[29] false) w := by intros; kernel_rfl
@[simp] theorem runUnderlying130 : ∀ (w : Go.World), Go.Sem.run prog (Go.underlying 130) w = Go.Result.ok (Go.TypeDesc.func #[55] #[52] false) w := by intros; kernel_rfl
@[simp] theorem runUnderlying131 : ∀ (w : Go.World), Go.Sem.run prog (Go.underlying 131) w = Go.Result.ok (Go.TypeDesc.tuple #[24, 4]) w := by intros; kernel_rfl
@[simp] theorem runUnderlying132 : ∀ (w : Go.World), Go.Sem.run prog (Go.underlying 132) w = Go.Result.ok (Go.TypeDesc.func #[24, 52, 3] #[24, 4] false) w := by intros; kernel_rfl
@[simp] theorem runUnderlying133 : ∀ (w : Go.World), Go.Sem.run prog (Go.underlying 133) w = Go.Result.ok (Go.TypeDesc.pointer 126) w := by intros; kernel_rfl
@[simp] theorem runUnderlying134 : ∀ (w : Go.World), Go.Sem.run prog (Go.underlying 134) w = Go.Result.ok (Go.TypeDesc.func #[135] #[] false) w := by intros; kernel_rfl
@[simp] theorem runUnderlying135 : ∀ (w : Go.World), Go.Sem.run prog (Go.underlying 135) w = Go.Result.ok Go.TypeDesc.unsafePointer w := by intros; kernel_rfl
@[simp] theorem runUnderlying136 : ∀ (w : Go.World), Go.Sem.run prog (Go.underlying 136) w = Go.Result.ok (Go.TypeDesc.int Go.IntKind.i64) w := by intros; kernel_rfl
@[simp] theorem runUnderlying137 : ∀ (w : Go.World), Go.Sem.run prog (Go.underlying 137) w = Go.Result.ok (Go.TypeDesc.func #[133] #[136] false) w := by intros; kernel_rfl
@[simp] theorem runUnderlying138 : ∀ (w : Go.World), Go.Sem.run prog (Go.underlying 138) w = Go.Result.ok (Go.TypeDesc.func #[9] #[] false) w := by intros; kernel_rfl
@[simp] theorem runUnderlying139 : ∀ (w : Go.World), Go.Sem.run prog (Go.underlying 139) w = Go.Result.ok (Go.TypeDesc.func #[121] #[121] false) w := by intros; kernel_rfl
@[simp] theorem runUnderlying140 : ∀ (w : Go.World), Go.Sem.run prog (Go.underlying 140) w = Go.Result.ok (Go.TypeDesc.int Go.IntKind.u64) w := by intros; kernel_rfl
@[simp] theorem runUnderlying141 : ∀ (w : Go.World), Go.Sem.run prog (Go.underlying 141) w = Go.Result.ok (Go.TypeDesc.pointer 124) w := by intros; kernel_rfl
@[simp] theorem runUnderlying142 : ∀ (w : Go.World), Go.Sem.run prog (Go.underlying 142) w = Go.Result.ok (Go.TypeDesc.func #[] #[121] false) w := by intros; kernel_rfl
@[simp] theorem runUnderlying143 : ∀ (w : Go.World), Go.Sem.run prog (Go.underlying 143) w = Go.Result.ok (Go.TypeDesc.func #[121] #[] false) w := by intros; kernel_rfl
@[simp] theorem runUnderlying144 : ∀ (w : Go.World), Go.Sem.run prog (Go.underlying 144) w = Go.Result.ok (Go.TypeDesc.func #[133] #[] false) w := by intros; kernel_rfl
@[simp] theorem runUnderlying145 : ∀ (w : Go.World), Go.Sem.run prog (Go.underlying 145) w = Go.Result.ok (Go.TypeDesc.func #[141, 4, 3] #[] false) w := by intros; kernel_rfl
@[simp] theorem runUnderlying146 : ∀ (w : Go.World), Go.Sem.run prog (Go.underlying 146) w = Go.Result.ok (Go.TypeDesc.func #[133] #[4] false) w := by intros; kernel_rfl
@[simp] theorem runUnderlying147 : ∀ (w : Go.World), Go.Sem.run prog (Go.underlying 147) w = Go.Result.ok (Go.TypeDesc.func #[121, 121] #[4] false) w := by intros; kernel_rfl
@[simp] theorem runUnderlying148 : ∀ (w : Go.World), Go.Sem.run prog (Go.underlying 148) w = Go.Result.ok (Go.TypeDesc.func #[141, 4] #[] false) w := by intros; kernel_rfl
@[simp] theorem runUnderlying149 : ∀ (w : Go.World), Go.Sem.run prog (Go.underlying 149) w = Go.Result.ok (Go.TypeDesc.func #[55, 37] #[55, 4] false) w := by intros; kernel_rfl
@[simp] theorem runUnderlying150 : ∀ (w : Go.World), Go.Sem.run prog (Go.underlying 150) w = Go.Result.ok (Go.TypeDesc.tuple #[37, 4]) w := by intros; kernel_rfl
@[simp] theorem runUnderlying151 : ∀ (w : Go.World), Go.Sem.run prog (Go.underlying 151) w = Go.Result.ok (Go.TypeDesc.func #[55] #[37, 4] false) w := by intros; kernel_rfl
@[simp] theorem runUnderlying152 : ∀ (w : Go.World), Go.Sem.run prog (Go.underlying 152) w = Go.Result.ok (Go.TypeDesc.func #[24, 52, 3] #[37, 4] false) w := by intros; kernel_rfl
@[simp] theorem runUnderlying153 : ∀ (w : Go.World), Go.Sem.run prog (Go.underlying 153) w = Go.Result.ok (Go.TypeDesc.pointer 123) w := by intros; kernel_rfl
@[simp] theorem runUnderlying154 : ∀ (w : Go.World), Go.Sem.run prog (Go.underlying 154) w = Go.Result.ok (Go.TypeDesc.func #[155, 121] #[121] false) w := by intros; kernel_rfl
@[simp] theorem runUnderlying155 : ∀ (w : Go.World), Go.Sem.run prog (Go.underlying 155) w = Go.Result.ok (Go.TypeDesc.pointer 121) w := by intros; kernel_rfl
@[simp] theorem runUnderlying156 : ∀ (w : Go.World), Go.Sem.run prog (Go.underlying 156) w = Go.Result.ok (Go.TypeDesc.func #[155] #[121] false) w := by intros; kernel_rfl
@[simp] theorem runUnderlying157 : ∀ (w : Go.World), Go.Sem.run prog (Go.underlying 157) w = Go.Result.ok (Go.TypeDesc.func #[155, 121] #[] false) w := by intros; kernel_rfl
@[simp] theorem runUnderlying158 : ∀ (w : Go.World), Go.Sem.run prog (Go.underlying 158) w = Go.Result.ok (Go.TypeDesc.func #[155, 121, 121] #[4] false) w := by intros; kernel_rfl
@[simp] theorem runUnderlying159 : ∀ (w : Go.World), Go.Sem.run prog (Go.underlying 159) w = Go.Result.ok (Go.TypeDesc.func #[52, 3] #[4] false) w := by intros; kernel_rfl
@[simp] theorem runUnderlying160 : ∀ (w : Go.World), Go.Sem.run prog (Go.underlying 160) w = Go.Result.ok (Go.TypeDesc.func #[53] #[37] false) w := by intros; kernel_rfl
@[simp] theorem runUnderlying161 : ∀ (w : Go.World), Go.Sem.run prog (Go.underlying 161) w = Go.Result.ok (Go.TypeDesc.func #[] #[9] false) w := by intros; kernel_rfl
@[simp] theorem runUnderlying162 : ∀ (w : Go.World), Go.Sem.run prog (Go.underlying 162) w = Go.Result.ok (Go.TypeDesc.struct #[{ name := "_interface", type := 17, offset := 0, embedded := false, tag := "", pkgPath := "runtime", byteOffset := 0 }, { name := "concrete", type := 17, offset := 1, embedded := false, tag := "", pkgPath := "runtime", byteOffset := 8 }, { name := "asserted", type := 17, offset := 2, embedded := false, tag := "", pkgPath := "runtime", byteOffset := 16 }, { name := "missingMethod", type := 9, offset := 3, embedded := false, tag := "", pkgPath := "runtime", byteOffset := 24 }]) w := by intros; kernel_rfl
@[simp] theorem runUnderlying163 : ∀ (w : Go.World), Go.Sem.run prog (Go.underlying 163) w = Go.Result.ok (Go.TypeDesc.struct #[{ name := "_interface", type := 17, offset := 0, embedded := false, tag := "", pkgPath := "runtime", byteOffset := 0 }, { name := "concrete", type := 17, offset := 1, embedded := false, tag := "", pkgPath := "runtime", byteOffset := 8 }, { name := "asserted", type := 17, offset := 2, embedded := false, tag := "", pkgPath := "runtime", byteOffset := 16 }, { name := "missingMethod", type := 9, offset := 3, embedded := false, tag := "", pkgPath := "runtime", byteOffset := 24 }]) w := by intros; kernel_rfl
@[simp] theorem runUnderlying164 : ∀ (w : Go.World), Go.Sem.run prog (Go.underlying 164) w = Go.Result.ok (Go.TypeDesc.array 0 16) w := by intros; kernel_rfl
@[simp] theorem runUnderlying165 : ∀ (w : Go.World), Go.Sem.run prog (Go.underlying 165) w = Go.Result.ok (Go.TypeDesc.struct #[{ name := "_", type := 164, offset := 0, embedded := false, tag := "", pkgPath := "runtime", byteOffset := 0 }]) w := by intros; kernel_rfl
@[simp] theorem runUnderlying166 : ∀ (w : Go.World), Go.Sem.run prog (Go.underlying 166) w = Go.Result.ok (Go.TypeDesc.struct #[{ name := "_", type := 164, offset := 0, embedded := false, tag := "", pkgPath := "runtime", byteOffset := 0 }]) w := by intros; kernel_rfl
@[simp] theorem runUnderlying167 : ∀ (w : Go.World), Go.Sem.run prog (Go.underlying 167) w = Go.Result.ok (Go.TypeDesc.func #[] #[3] false) w := by intros; kernel_rfl
@[simp] theorem runUnderlying168 : ∀ (w : Go.World), Go.Sem.run prog (Go.underlying 168) w = Go.Result.ok (Go.TypeDesc.int Go.IntKind.u8) w := by intros; kernel_rfl
@[simp] theorem runUnderlying169 : ∀ (w : Go.World), Go.Sem.run prog (Go.underlying 169) w = Go.Result.ok (Go.TypeDesc.int Go.IntKind.u8) w := by intros; kernel_rfl
@[simp] theorem runUnderlying170 : ∀ (w : Go.World), Go.Sem.run prog (Go.underlying 170) w = Go.Result.ok (Go.TypeDesc.func #[135, 135] #[4] false) w := by intros; kernel_rfl
@[simp] theorem runUnderlying171 : ∀ (w : Go.World), Go.Sem.run prog (Go.underlying 171) w = Go.Result.ok (Go.TypeDesc.pointer 5) w := by intros; kernel_rfl
@[simp] theorem runUnderlying172 : ∀ (w : Go.World), Go.Sem.run prog (Go.underlying 172) w = Go.Result.ok (Go.TypeDesc.int Go.IntKind.i32) w := by intros; kernel_rfl
@[simp] theorem runUnderlying173 : ∀ (w : Go.World), Go.Sem.run prog (Go.underlying 173) w = Go.Result.ok (Go.TypeDesc.int Go.IntKind.i32) w := by intros; kernel_rfl
@[simp] theorem runUnderlying174 : ∀ (w : Go.World), Go.Sem.run prog (Go.underlying 174) w = Go.Result.ok (Go.TypeDesc.struct #[{ name := "Size_", type := 12, offset := 0, embedded := false, tag := "", pkgPath := "", byteOffset := 0 }, { name := "PtrBytes", type := 12, offset := 1, embedded := false, tag := "", pkgPath := "", byteOffset := 8 }, { name := "Hash", type := 124, offset := 2, embedded := false, tag := "", pkgPath := "", byteOffset := 16 }, { name := "TFlag", type := 168, offset := 3, embedded := false, tag := "", pkgPath := "", byteOffset := 20 }, { name := "Align_", type := 5, offset := 4, embedded := false, tag := "", pkgPath := "", byteOffset := 21 }, { name := "FieldAlign_", type := 5, offset := 5, embedded := false, tag := "", pkgPath := "", byteOffset := 22 }, { name := "Kind_", type := 169, offset := 6, embedded := false, tag := "", pkgPath := "", byteOffset := 23 }, { name := "Equal", type := 170, offset := 7, embedded := false, tag := "", pkgPath := "", byteOffset := 24 }, { name := "GCData", type := 171, offset := 8, embedded := false, tag := "", pkgPath := "", byteOffset := 32 }, { name := "Str", type := 172, offset := 9, embedded := false, tag := "", pkgPath := "", byteOffset := 40 }, { name := "PtrToThis", type := 173, offset := 10, embedded := false, tag := "", pkgPath := "", byteOffset := 44 }]) w := by intros; kernel_rfl
@[simp] theorem runUnderlying175 : ∀ (w : Go.World), Go.Sem.run prog (Go.underlying 175) w = Go.Result.ok (Go.TypeDesc.struct #[{ name := "Size_", type := 12, offset := 0, embedded := false, tag := "", pkgPath := "", byteOffset := 0 }, { name := "PtrBytes", type := 12, offset := 1, embedded := false, tag := "", pkgPath := "", byteOffset := 8 }, { name := "Hash", type := 124, offset := 2, embedded := false, tag := "", pkgPath := "", byteOffset := 16 }, { name := "TFlag", type := 168, offset := 3, embedded := false, tag := "", pkgPath := "", byteOffset := 20 }, { name := "Align_", type := 5, offset := 4, embedded := false, tag := "", pkgPath := "", byteOffset := 21 }, { name := "FieldAlign_", type := 5, offset := 5, embedded := false, tag := "", pkgPath := "", byteOffset := 22 }, { name := "Kind_", type := 169, offset := 6, embedded := false, tag := "", pkgPath := "", byteOffset := 23 }, { name := "Equal", type := 170, offset := 7, embedded := false, tag := "", pkgPath := "", byteOffset := 24 }, { name := "GCData", type := 171, offset := 8, embedded := false, tag := "", pkgPath := "", byteOffset := 32 }, { name := "Str", type := 172, offset := 9, embedded := false, tag := "", pkgPath := "", byteOffset := 40 }, { name := "PtrToThis", type := 173, offset := 10, embedded := false, tag := "", pkgPath := "", byteOffset := 44 }]) w := by intros; kernel_rfl
@[simp] theorem runUnderlying176 : ∀ (w : Go.World), Go.Sem.run prog (Go.underlying 176) w = Go.Result.ok (Go.TypeDesc.func #[] #[178] false) w := by intros; kernel_rfl
@[simp] theorem runUnderlying177 : ∀ (w : Go.World), Go.Sem.run prog (Go.underlying 177) w = Go.Result.ok (Go.TypeDesc.interface #[("loop.example/groupmulticast/impl.message", 167)]) w := by intros; kernel_rfl
@[simp] theorem runUnderlying178 : ∀ (w : Go.World), Go.Sem.run prog (Go.underlying 178) w = Go.Result.ok (Go.TypeDesc.interface #[("loop.example/groupmulticast/impl.message", 167)]) w := by intros; kernel_rfl
@[simp] theorem sizeOf0 : ∀ (w : Go.World), Go.Sem.run prog (Go.sizeOf 0) w = Go.Result.ok 1 w := by intros; kernel_rfl
@[simp] theorem sizeOf1 : ∀ (w : Go.World), Go.Sem.run prog (Go.sizeOf 1) w = Go.Result.ok 1 w := by intros; kernel_rfl
@[simp] theorem sizeOf2 : ∀ (w : Go.World), Go.Sem.run prog (Go.sizeOf 2) w = Go.Result.ok 1 w := by intros; kernel_rfl
@[simp] theorem sizeOf3 : ∀ (w : Go.World), Go.Sem.run prog (Go.sizeOf 3) w = Go.Result.ok 1 w := by intros; kernel_rfl
@[simp] theorem sizeOf4 : ∀ (w : Go.World), Go.Sem.run prog (Go.sizeOf 4) w = Go.Result.ok 1 w := by intros; kernel_rfl
@[simp] theorem sizeOf5 : ∀ (w : Go.World), Go.Sem.run prog (Go.sizeOf 5) w = Go.Result.ok 1 w := by intros; kernel_rfl
@[simp] theorem sizeOf6 : ∀ (w : Go.World), Go.Sem.run prog (Go.sizeOf 6) w = Go.Result.ok 1 w := by intros; kernel_rfl
@[simp] theorem sizeOf7 : ∀ (w : Go.World), Go.Sem.run prog (Go.sizeOf 7) w = Go.Result.ok 4 w := by intros; kernel_rfl
@[simp] theorem sizeOf8 : ∀ (w : Go.World), Go.Sem.run prog (Go.sizeOf 8) w = Go.Result.ok 4 w := by intros; kernel_rfl
@[simp] theorem sizeOf9 : ∀ (w : Go.World), Go.Sem.run prog (Go.sizeOf 9) w = Go.Result.ok 1 w := by intros; kernel_rfl
@[simp] theorem sizeOf10 : ∀ (w : Go.World), Go.Sem.run prog (Go.sizeOf 10) w = Go.Result.ok 1 w := by intros; kernel_rfl
@[simp] theorem sizeOf11 : ∀ (w : Go.World), Go.Sem.run prog (Go.sizeOf 11) w = Go.Result.ok 1 w := by intros; kernel_rfl
@[simp] theorem sizeOf12 : ∀ (w : Go.World), Go.Sem.run prog (Go.sizeOf 12) w = Go.Result.ok 1 w := by intros; kernel_rfl
@[simp] theorem sizeOf13 : ∀ (w : Go.World), Go.Sem.run prog (Go.sizeOf 13) w = Go.Result.ok 2 w := by intros; kernel_rfl
@[simp] theorem sizeOf14 : ∀ (w : Go.World), Go.Sem.run prog (Go.sizeOf 14) w = Go.Result.ok 2 w := by intros; kernel_rfl
@[simp] theorem sizeOf15 : ∀ (w : Go.World), Go.Sem.run prog (Go.sizeOf 15) w = Go.Result.ok 1 w := by intros; kernel_rfl
@[simp] theorem sizeOf16 : ∀ (w : Go.World), Go.Sem.run prog (Go.sizeOf 16) w = Go.Result.ok 1 w := by intros; kernel_rfl
@[simp] theorem sizeOf17 : ∀ (w : Go.World), Go.Sem.run prog (Go.sizeOf 17) w = Go.Result.ok 1 w := by intros; kernel_rfl
@[simp] theorem sizeOf18 : ∀ (w : Go.World), Go.Sem.run prog (Go.sizeOf 18) w = Go.Result.ok 1 w := by intros; kernel_rfl
@[simp] theorem sizeOf19 : ∀ (w : Go.World), Go.Sem.run prog (Go.sizeOf 19) w = Go.Result.ok 1 w := by intros; kernel_rfl
@[simp] theorem sizeOf20 : ∀ (w : Go.World), Go.Sem.run prog (Go.sizeOf 20) w = Go.Result.ok 1 w := by intros; kernel_rfl
@[simp] theorem sizeOf21 : ∀ (w : Go.World), Go.Sem.run prog (Go.sizeOf 21) w = Go.Result.ok 1 w := by intros; kernel_rfl
@[simp] theorem sizeOf22 : ∀ (w : Go.World), Go.Sem.run prog (Go.sizeOf 22) w = Go.Result.ok 1 w := by intros; kernel_rfl
@[simp] theorem sizeOf23 : ∀ (w : Go.World), Go.Sem.run prog (Go.sizeOf 23) w = Go.Result.ok 1 w := by intros; kernel_rfl
@[simp] theorem sizeOf24 : ∀ (w : Go.World), Go.Sem.run prog (Go.sizeOf 24) w = Go.Result.ok 1 w := by intros; kernel_rfl
@[simp] theorem sizeOf25 : ∀ (w : Go.World), Go.Sem.run prog (Go.sizeOf 25) w = Go.Result.ok 1 w := by intros; kernel_rfl
@[simp] theorem sizeOf26 : ∀ (w : Go.World), Go.Sem.run prog (Go.sizeOf 26) w = Go.Result.ok 1 w := by intros; kernel_rfl
@[simp] theorem sizeOf27 : ∀ (w : Go.World), Go.Sem.run prog (Go.sizeOf 27) w = Go.Result.ok 1 w := by intros; kernel_rfl
@[simp] theorem sizeOf28 : ∀ (w : Go.World), Go.Sem.run prog (Go.sizeOf 28) w = Go.Result.ok 5 w := by intros; kernel_rfl
@[simp] theorem sizeOf29 : ∀ (w : Go.World), Go.Sem.run prog (Go.sizeOf 29) w = Go.Result.ok 5 w := by intros; kernel_rfl
@[simp] theorem sizeOf30 : ∀ (w : Go.World), Go.Sem.run prog (Go.sizeOf 30) w = Go.Result.ok 1 w := by intros; kernel_rfl
@[simp] theorem sizeOf31 : ∀ (w : Go.World), Go.Sem.run prog (Go.sizeOf 31) w = Go.Result.ok 1 w := by intros; kernel_rfl
@[simp] theorem sizeOf32 : ∀ (w : Go.World), Go.Sem.run prog (Go.sizeOf 32) w = Go.Result.ok 1 w := by intros; kernel_rfl
@[simp] theorem sizeOf33 : ∀ (w : Go.World), Go.Sem.run prog (Go.sizeOf 33) w = Go.Result.ok 1 w := by intros; kernel_rfl
@[simp] theorem sizeOf34 : ∀ (w : Go.World), Go.Sem.run prog (Go.sizeOf 34) w = Go.Result.ok 1 w := by intros; kernel_rfl
@[simp] theorem sizeOf35 : ∀ (w : Go.World), Go.Sem.run prog (Go.sizeOf 35) w = Go.Result.ok 1 w := by intros; kernel_rfl
@[simp] theorem sizeOf36 : ∀ (w : Go.World), Go.Sem.run prog (Go.sizeOf 36) w = Go.Result.ok 2 w := by intros; kernel_rfl
@[simp] theorem sizeOf37 : ∀ (w : Go.World), Go.Sem.run prog (Go.sizeOf 37) w = Go.Result.ok 2 w := by intros; kernel_rfl
@[simp] theorem sizeOf38 : ∀ (w : Go.World), Go.Sem.run prog (Go.sizeOf 38) w = Go.Result.ok 4 w := by intros; kernel_rfl
@[simp] theorem sizeOf39 : ∀ (w : Go.World), Go.Sem.run prog (Go.sizeOf 39) w = Go.Result.ok 4 w := by intros; kernel_rfl
@[simp] theorem sizeOf40 : ∀ (w : Go.World), Go.Sem.run prog (Go.sizeOf 40) w = Go.Result.ok 1 w := by intros; kernel_rfl
@[simp] theorem sizeOf41 : ∀ (w : Go.World), Go.Sem.run prog (Go.sizeOf 41) w = Go.Result.ok 1 w := by intros; kernel_rfl
@[simp] theorem sizeOf42 : ∀ (w : Go.World), Go.Sem.run prog (Go.sizeOf 42) w = Go.Result.ok 1 w := by intros; kernel_rfl
@[simp] theorem sizeOf43 : ∀ (w : Go.World), Go.Sem.run prog (Go.sizeOf 43) w = Go.Result.ok 4 w := by intros; kernel_rfl
@[simp] theorem sizeOf44 : ∀ (w : Go.World), Go.Sem.run prog (Go.sizeOf 44) w = Go.Result.ok 4 w := by intros; kernel_rfl
@[simp] theorem sizeOf45 : ∀ (w : Go.World), Go.Sem.run prog (Go.sizeOf 45) w = Go.Result.ok 1 w := by intros; kernel_rfl
@[simp] theorem sizeOf46 : ∀ (w : Go.World), Go.Sem.run prog (Go.sizeOf 46) w = Go.Result.ok 1 w := by intros; kernel_rfl
@[simp] theorem sizeOf47 : ∀ (w : Go.World), Go.Sem.run prog (Go.sizeOf 47) w = Go.Result.ok 1 w := by intros; kernel_rfl
@[simp] theorem sizeOf48 : ∀ (w : Go.World), Go.Sem.run prog (Go.sizeOf 48) w = Go.Result.ok 1 w := by intros; kernel_rfl
@[simp] theorem sizeOf49 : ∀ (w : Go.World), Go.Sem.run prog (Go.sizeOf 49) w = Go.Result.ok 1 w := by intros; kernel_rfl
@[simp] theorem sizeOf50 : ∀ (w : Go.World), Go.Sem.run prog (Go.sizeOf 50) w = Go.Result.ok 1 w := by intros; kernel_rfl
@[simp] theorem sizeOf51 : ∀ (w : Go.World), Go.Sem.run prog (Go.sizeOf 51) w = Go.Result.ok 1 w := by intros; kernel_rfl
@[simp] theorem sizeOf52 : ∀ (w : Go.World), Go.Sem.run prog (Go.sizeOf 52) w = Go.Result.ok 1 w := by intros; kernel_rfl
@[simp] theorem sizeOf53 : ∀ (w : Go.World), Go.Sem.run prog (Go.sizeOf 53) w = Go.Result.ok 1 w := by intros; kernel_rfl
@[simp] theorem sizeOf54 : ∀ (w : Go.World), Go.Sem.run prog (Go.sizeOf 54) w = Go.Result.ok 3 w := by intros; kernel_rfl
@[simp] theorem sizeOf55 : ∀ (w : Go.World), Go.Sem.run prog (Go.sizeOf 55) w = Go.Result.ok 3 w := by intros; kernel_rfl
@[simp] theorem sizeOf56 : ∀ (w : Go.World), Go.Sem.run prog (Go.sizeOf 56) w = Go.Result.ok 5 w := by intros; kernel_rfl
@[simp] theorem sizeOf57 : ∀ (w : Go.World), Go.Sem.run prog (Go.sizeOf 57) w = Go.Result.ok 5 w := by intros; kernel_rfl
@[simp] theorem sizeOf58 : ∀ (w : Go.World), Go.Sem.run prog (Go.sizeOf 58) w = Go.Result.ok 1 w := by intros; kernel_rfl
@[simp] theorem sizeOf59 : ∀ (w : Go.World), Go.Sem.run prog (Go.sizeOf 59) w = Go.Result.ok 1 w := by intros; kernel_rfl
@[simp] theorem sizeOf60 : ∀ (w : Go.World), Go.Sem.run prog (Go.sizeOf 60) w = Go.Result.ok 1 w := by intros; kernel_rfl
@[simp] theorem sizeOf61 : ∀ (w : Go.World), Go.Sem.run prog (Go.sizeOf 61) w = Go.Result.ok 1 w := by intros; kernel_rfl
@[simp] theorem sizeOf62 : ∀ (w : Go.World), Go.Sem.run prog (Go.sizeOf 62) w = Go.Result.ok 1 w := by intros; kernel_rfl
@[simp] theorem sizeOf63 : ∀ (w : Go.World), Go.Sem.run prog (Go.sizeOf 63) w = Go.Result.ok 1 w := by intros; kernel_rfl
@[simp] theorem sizeOf64 : ∀ (w : Go.World), Go.Sem.run prog (Go.sizeOf 64) w = Go.Result.ok 1 w := by intros; kernel_rfl
@[simp] theorem sizeOf65 : ∀ (w : Go.World), Go.Sem.run prog (Go.sizeOf 65) w = Go.Result.ok 1 w := by intros; kernel_rfl
@[simp] theorem sizeOf66 : ∀ (w : Go.World), Go.Sem.run prog (Go.sizeOf 66) w = Go.Result.ok 2 w := by intros; kernel_rfl
@[simp] theorem sizeOf67 : ∀ (w : Go.World), Go.Sem.run prog (Go.sizeOf 67) w = Go.Result.ok 1 w := by intros; kernel_rfl
@[simp] theorem sizeOf68 : ∀ (w : Go.World), Go.Sem.run prog (Go.sizeOf 68) w = Go.Result.ok 1 w := by intros; kernel_rfl
@[simp] theorem sizeOf69 : ∀ (w : Go.World), Go.Sem.run prog (Go.sizeOf 69) w = Go.Result.ok 1 w := by intros; kernel_rfl
@[simp] theorem sizeOf70 : ∀ (w : Go.World), Go.Sem.run prog (Go.sizeOf 70) w = Go.Result.ok 1 w := by intros; kernel_rfl
@[simp] theorem sizeOf71 : ∀ (w : Go.World), Go.Sem.run prog (Go.sizeOf 71) w = Go.Result.ok 1 w := by intros; kernel_rfl
@[simp] theorem sizeOf72 : ∀ (w : Go.World), Go.Sem.run prog (Go.sizeOf 72) w = Go.Result.ok 1 w := by intros; kernel_rfl
@[simp] theorem sizeOf73 : ∀ (w : Go.World), Go.Sem.run prog (Go.sizeOf 73) w = Go.Result.ok 1 w := by intros; kernel_rfl
@[simp] theorem sizeOf74 : ∀ (w : Go.World), Go.Sem.run prog (Go.sizeOf 74) w = Go.Result.ok 1 w := by intros; kernel_rfl
@[simp] theorem sizeOf75 : ∀ (w : Go.World), Go.Sem.run prog (Go.sizeOf 75) w = Go.Result.ok 1 w := by intros; kernel_rfl
@[simp] theorem sizeOf76 : ∀ (w : Go.World), Go.Sem.run prog (Go.sizeOf 76) w = Go.Result.ok 1 w := by intros; kernel_rfl
@[simp] theorem sizeOf77 : ∀ (w : Go.World), Go.Sem.run prog (Go.sizeOf 77) w = Go.Result.ok 1 w := by intros; kernel_rfl
@[simp] theorem sizeOf78 : ∀ (w : Go.World), Go.Sem.run prog (Go.sizeOf 78) w = Go.Result.ok 1 w := by intros; kernel_rfl
@[simp] theorem sizeOf79 : ∀ (w : Go.World), Go.Sem.run prog (Go.sizeOf 79) w = Go.Result.ok 1 w := by intros; kernel_rfl
@[simp] theorem sizeOf80 : ∀ (w : Go.World), Go.Sem.run prog (Go.sizeOf 80) w = Go.Result.ok 1 w := by intros; kernel_rfl
@[simp] theorem sizeOf81 : ∀ (w : Go.World), Go.Sem.run prog (Go.sizeOf 81) w = Go.Result.ok 1 w := by intros; kernel_rfl
@[simp] theorem sizeOf82 : ∀ (w : Go.World), Go.Sem.run prog (Go.sizeOf 82) w = Go.Result.ok 1 w := by intros; kernel_rfl
@[simp] theorem sizeOf83 : ∀ (w : Go.World), Go.Sem.run prog (Go.sizeOf 83) w = Go.Result.ok 2 w := by intros; kernel_rfl
@[simp] theorem sizeOf84 : ∀ (w : Go.World), Go.Sem.run prog (Go.sizeOf 84) w = Go.Result.ok 2 w := by intros; kernel_rfl
@[simp] theorem sizeOf85 : ∀ (w : Go.World), Go.Sem.run prog (Go.sizeOf 85) w = Go.Result.ok 1 w := by intros; kernel_rfl
@[simp] theorem sizeOf86 : ∀ (w : Go.World), Go.Sem.run prog (Go.sizeOf 86) w = Go.Result.ok 12 w := by intros; kernel_rfl
@[simp] theorem sizeOf87 : ∀ (w : Go.World), Go.Sem.run prog (Go.sizeOf 87) w = Go.Result.ok 1 w := by intros; kernel_rfl
@[simp] theorem sizeOf88 : ∀ (w : Go.World), Go.Sem.run prog (Go.sizeOf 88) w = Go.Result.ok 1 w := by intros; kernel_rfl
@[simp] theorem sizeOf89 : ∀ (w : Go.World), Go.Sem.run prog (Go.sizeOf 89) w = Go.Result.ok 1 w := by intros; kernel_rfl
@[simp] theorem sizeOf90 : ∀ (w : Go.World), Go.Sem.run prog (Go.sizeOf 90) w = Go.Result.ok 5 w := by intros; kernel_rfl
@[simp] theorem sizeOf91 : ∀ (w : Go.World), Go.Sem.run prog (Go.sizeOf 91) w = Go.Result.ok 5 w := by intros; kernel_rfl
@[simp] theorem sizeOf92 : ∀ (w : Go.World), Go.Sem.run prog (Go.sizeOf 92) w = Go.Result.ok 1 w := by intros; kernel_rfl
@[simp] theorem sizeOf93 : ∀ (w : Go.World), Go.Sem.run prog (Go.sizeOf 93) w = Go.Result.ok 1 w := by intros; kernel_rfl
@[simp] theorem sizeOf94 : ∀ (w : Go.World), Go.Sem.run prog (Go.sizeOf 94) w = Go.Result.ok 2 w := by intros; kernel_rfl
@[simp] theorem sizeOf95 : ∀ (w : Go.World), Go.Sem.run prog (Go.sizeOf 95) w = Go.Result.ok 2 w := by intros; kernel_rfl
@[simp] theorem sizeOf96 : ∀ (w : Go.World), Go.Sem.run prog (Go.sizeOf 96) w = Go.Result.ok 1 w := by intros; kernel_rfl
@[simp] theorem sizeOf97 : ∀ (w : Go.World), Go.Sem.run prog (Go.sizeOf 97) w = Go.Result.ok 1 w := by intros; kernel_rfl
@[simp] theorem sizeOf98 : ∀ (w : Go.World), Go.Sem.run prog (Go.sizeOf 98) w = Go.Result.ok 1 w := by intros; kernel_rfl
@[simp] theorem sizeOf99 : ∀ (w : Go.World), Go.Sem.run prog (Go.sizeOf 99) w = Go.Result.ok 1 w := by intros; kernel_rfl
@[simp] theorem sizeOf100 : ∀ (w : Go.World), Go.Sem.run prog (Go.sizeOf 100) w = Go.Result.ok 2 w := by intros; kernel_rfl
@[simp] theorem sizeOf101 : ∀ (w : Go.World), Go.Sem.run prog (Go.sizeOf 101) w = Go.Result.ok 2 w := by intros; kernel_rfl
@[simp] theorem sizeOf102 : ∀ (w : Go.World), Go.Sem.run prog (Go.sizeOf 102) w = Go.Result.ok 1 w := by intros; kernel_rfl
@[simp] theorem sizeOf103 : ∀ (w : Go.World), Go.Sem.run prog (Go.sizeOf 103) w = Go.Result.ok 1 w := by intros; kernel_rfl
@[simp] theorem sizeOf104 : ∀ (w : Go.World), Go.Sem.run prog (Go.sizeOf 104) w = Go.Result.ok 1 w := by intros; kernel_rfl
@[simp] theorem sizeOf105 : ∀ (w : Go.World), Go.Sem.run prog (Go.sizeOf 105) w = Go.Result.ok 1 w := by intros; kernel_rfl
@[simp] theorem sizeOf106 : ∀ (w : Go.World), Go.Sem.run prog (Go.sizeOf 106) w = Go.Result.ok 1 w := by intros; kernel_rfl
@[simp] theorem sizeOf107 : ∀ (w : Go.World), Go.Sem.run prog (Go.sizeOf 107) w = Go.Result.ok 1 w := by intros; kernel_rfl
@[simp] theorem sizeOf108 : ∀ (w : Go.World), Go.Sem.run prog (Go.sizeOf 108) w = Go.Result.ok 1 w := by intros; kernel_rfl
@[simp] theorem sizeOf109 : ∀ (w : Go.World), Go.Sem.run prog (Go.sizeOf 109) w = Go.Result.ok 1 w := by intros; kernel_rfl
@[simp] theorem sizeOf110 : ∀ (w : Go.World), Go.Sem.run prog (Go.sizeOf 110) w = Go.Result.ok 1 w := by intros; kernel_rfl
@[simp] theorem sizeOf111 : ∀ (w : Go.World), Go.Sem.run prog (Go.sizeOf 111) w = Go.Result.ok 1 w := by intros; kernel_rfl
@[simp] theorem sizeOf112 : ∀ (w : Go.World), Go.Sem.run prog (Go.sizeOf 112) w = Go.Result.ok 1 w := by intros; kernel_rfl
@[simp] theorem sizeOf113 : ∀ (w : Go.World), Go.Sem.run prog (Go.sizeOf 113) w = Go.Result.ok 1 w := by intros; kernel_rfl
@[simp] theorem sizeOf114 : ∀ (w : Go.World), Go.Sem.run prog (Go.sizeOf 114) w = Go.Result.ok 1 w := by intros; kernel_rfl
@[simp] theorem sizeOf115 : ∀ (w : Go.World), Go.Sem.run prog (Go.sizeOf 115) w = Go.Result.ok 1 w := by intros; kernel_rfl
@[simp] theorem sizeOf116 : ∀ (w : Go.World), Go.Sem.run prog (Go.sizeOf 116) w = Go.Result.ok 1 w := by intros; kernel_rfl
@[simp] theorem sizeOf117 : ∀ (w : Go.World), Go.Sem.run prog (Go.sizeOf 117) w = Go.Result.ok 0 w := by intros; kernel_rfl
@[simp] theorem sizeOf118 : ∀ (w : Go.World), Go.Sem.run prog (Go.sizeOf 118) w = Go.Result.ok 0 w := by intros; kernel_rfl
@[simp] theorem sizeOf119 : ∀ (w : Go.World), Go.Sem.run prog (Go.sizeOf 119) w = Go.Result.ok 0 w := by intros; kernel_rfl
@[simp] theorem sizeOf120 : ∀ (w : Go.World), Go.Sem.run prog (Go.sizeOf 120) w = Go.Result.ok 0 w := by intros; kernel_rfl
@[simp] theorem sizeOf121 : ∀ (w : Go.World), Go.Sem.run prog (Go.sizeOf 121) w = Go.Result.ok 1 w := by intros; kernel_rfl
@[simp] theorem sizeOf122 : ∀ (w : Go.World), Go.Sem.run prog (Go.sizeOf 122) w = Go.Result.ok 1 w := by intros; kernel_rfl
@[simp] theorem sizeOf123 : ∀ (w : Go.World), Go.Sem.run prog (Go.sizeOf 123) w = Go.Result.ok 1 w := by intros; kernel_rfl
@[simp] theorem sizeOf124 : ∀ (w : Go.World), Go.Sem.run prog (Go.sizeOf 124) w = Go.Result.ok 1 w := by intros; kernel_rfl
@[simp] theorem sizeOf125 : ∀ (w : Go.World), Go.Sem.run prog (Go.sizeOf 125) w = Go.Result.ok 2 w := by intros; kernel_rfl
@[simp] theorem sizeOf126 : ∀ (w : Go.World), Go.Sem.run prog (Go.sizeOf 126) w = Go.Result.ok 2 w := by intros; kernel_rfl
@[simp] theorem sizeOf127 : ∀ (w : Go.World), Go.Sem.run prog (Go.sizeOf 127) w = Go.Result.ok 1 w := by intros; kernel_rfl
@[simp] theorem sizeOf128 : ∀ (w : Go.World), Go.Sem.run prog (Go.sizeOf 128) w = Go.Result.ok 1 w := by intros; kernel_rfl
@[simp] theorem sizeOf129 : ∀ (w : Go.World), Go.Sem.run prog (Go.sizeOf 129) w = Go.Result.ok 1 w := by intros; kernel_rfl
@[simp] theorem sizeOf130 : ∀ (w : Go.World), Go.Sem.run prog (Go.sizeOf 130) w = Go.Result.ok 1 w := by intros; kernel_rfl
@[simp] theorem sizeOf131 : ∀ (w : Go.World), Go.Sem.run prog (Go.sizeOf 131) w = Go.Result.ok 1 w := by intros; kernel_rfl
@[simp] theorem sizeOf132 : ∀ (w : Go.World), Go.Sem.run prog (Go.sizeOf 132) w = Go.Result.ok 1 w := by intros; kernel_rfl
@[simp] theorem sizeOf133 : ∀ (w : Go.World), Go.Sem.run prog (Go.sizeOf 133) w = Go.Result.ok 1 w := by intros; kernel_rfl
@[simp] theorem sizeOf134 : ∀ (w : Go.World), Go.Sem.run prog (Go.sizeOf 134) w = Go.Result.ok 1 w := by intros; kernel_rfl
@[simp] theorem sizeOf135 : ∀ (w : Go.World), Go.Sem.run prog (Go.sizeOf 135) w = Go.Result.ok 1 w := by intros; kernel_rfl
@[simp] theorem sizeOf136 : ∀ (w : Go.World), Go.Sem.run prog (Go.sizeOf 136) w = Go.Result.ok 1 w := by intros; kernel_rfl
@[simp] theorem sizeOf137 : ∀ (w : Go.World), Go.Sem.run prog (Go.sizeOf 137) w = Go.Result.ok 1 w := by intros; kernel_rfl
@[simp] theorem sizeOf138 : ∀ (w : Go.World), Go.Sem.run prog (Go.sizeOf 138) w = Go.Result.ok 1 w := by intros; kernel_rfl
@[simp] theorem sizeOf139 : ∀ (w : Go.World), Go.Sem.run prog (Go.sizeOf 139) w = Go.Result.ok 1 w := by intros; kernel_rfl
@[simp] theorem sizeOf140 : ∀ (w : Go.World), Go.Sem.run prog (Go.sizeOf 140) w = Go.Result.ok 1 w := by intros; kernel_rfl
@[simp] theorem sizeOf141 : ∀ (w : Go.World), Go.Sem.run prog (Go.sizeOf 141) w = Go.Result.ok 1 w := by intros; kernel_rfl
@[simp] theorem sizeOf142 : ∀ (w : Go.World), Go.Sem.run prog (Go.sizeOf 142) w = Go.Result.ok 1 w := by intros; kernel_rfl
@[simp] theorem sizeOf143 : ∀ (w : Go.World), Go.Sem.run prog (Go.sizeOf 143) w = Go.Result.ok 1 w := by intros; kernel_rfl
@[simp] theorem sizeOf144 : ∀ (w : Go.World), Go.Sem.run prog (Go.sizeOf 144) w = Go.Result.ok 1 w := by intros; kernel_rfl
@[simp] theorem sizeOf145 : ∀ (w : Go.World), Go.Sem.run prog (Go.sizeOf 145) w = Go.Result.ok 1 w := by intros; kernel_rfl
@[simp] theorem sizeOf146 : ∀ (w : Go.World), Go.Sem.run prog (Go.sizeOf 146) w = Go.Result.ok 1 w := by intros; kernel_rfl
@[simp] theorem sizeOf147 : ∀ (w : Go.World), Go.Sem.run prog (Go.sizeOf 147) w = Go.Result.ok 1 w := by intros; kernel_rfl
@[simp] theorem sizeOf148 : ∀ (w : Go.World), Go.Sem.run prog (Go.sizeOf 148) w = Go.Result.ok 1 w := by intros; kernel_rfl
@[simp] theorem sizeOf149 : ∀ (w : Go.World), Go.Sem.run prog (Go.sizeOf 149) w = Go.Result.ok 1 w := by intros; kernel_rfl
@[simp] theorem sizeOf150 : ∀ (w : Go.World), Go.Sem.run prog (Go.sizeOf 150) w = Go.Result.ok 1 w := by intros; kernel_rfl
@[simp] theorem sizeOf151 : ∀ (w : Go.World), Go.Sem.run prog (Go.sizeOf 151) w = Go.Result.ok 1 w := by intros; kernel_rfl
@[simp] theorem sizeOf152 : ∀ (w : Go.World), Go.Sem.run prog (Go.sizeOf 152) w = Go.Result.ok 1 w := by intros; kernel_rfl
@[simp] theorem sizeOf153 : ∀ (w : Go.World), Go.Sem.run prog (Go.sizeOf 153) w = Go.Result.ok 1 w := by intros; kernel_rfl
@[simp] theorem sizeOf154 : ∀ (w : Go.World), Go.Sem.run prog (Go.sizeOf 154) w = Go.Result.ok 1 w := by intros; kernel_rfl
@[simp] theorem sizeOf155 : ∀ (w : Go.World), Go.Sem.run prog (Go.sizeOf 155) w = Go.Result.ok 1 w := by intros; kernel_rfl
@[simp] theorem sizeOf156 : ∀ (w : Go.World), Go.Sem.run prog (Go.sizeOf 156) w = Go.Result.ok 1 w := by intros; kernel_rfl
@[simp] theorem sizeOf157 : ∀ (w : Go.World), Go.Sem.run prog (Go.sizeOf 157) w = Go.Result.ok 1 w := by intros; kernel_rfl
@[simp] theorem sizeOf158 : ∀ (w : Go.World), Go.Sem.run prog (Go.sizeOf 158) w = Go.Result.ok 1 w := by intros; kernel_rfl
@[simp] theorem sizeOf159 : ∀ (w : Go.World), Go.Sem.run prog (Go.sizeOf 159) w = Go.Result.ok 1 w := by intros; kernel_rfl
@[simp] theorem sizeOf160 : ∀ (w : Go.World), Go.Sem.run prog (Go.sizeOf 160) w = Go.Result.ok 1 w := by intros; kernel_rfl
@[simp] theorem sizeOf161 : ∀ (w : Go.World), Go.Sem.run prog (Go.sizeOf 161) w = Go.Result.ok 1 w := by intros; kernel_rfl
@[simp] theorem sizeOf162 : ∀ (w : Go.World), Go.Sem.run prog (Go.sizeOf 162) w = Go.Result.ok 4 w := by intros; kernel_rfl
@[simp] theorem sizeOf163 : ∀ (w : Go.World), Go.Sem.run prog (Go.sizeOf 163) w = Go.Result.ok 4 w := by intros; kernel_rfl
@[simp] theorem sizeOf164 : ∀ (w : Go.World), Go.Sem.run prog (Go.sizeOf 164) w = Go.Result.ok 0 w := by intros; kernel_rfl
@[simp] theorem sizeOf165 : ∀ (w : Go.World), Go.Sem.run prog (Go.sizeOf 165) w = Go.Result.ok 0 w := by intros; kernel_rfl
@[simp] theorem sizeOf166 : ∀ (w : Go.World), Go.Sem.run prog (Go.sizeOf 166) w = Go.Result.ok 0 w := by intros; kernel_rfl
@[simp] theorem sizeOf167 : ∀ (w : Go.World), Go.Sem.run prog (Go.sizeOf 167) w = Go.Result.ok 1 w := by intros; kernel_rfl
@[simp] theorem sizeOf168 : ∀ (w : Go.World), Go.Sem.run prog (Go.sizeOf 168) w = Go.Result.ok 1 w := by intros; kernel_rfl
@[simp] theorem sizeOf169 : ∀ (w : Go.World), Go.Sem.run prog (Go.sizeOf 169) w = Go.Result.ok 1 w := by intros; kernel_rfl
@[simp] theorem sizeOf170 : ∀ (w : Go.World), Go.Sem.run prog (Go.sizeOf 170) w = Go.Result.ok 1 w := by intros; kernel_rfl
@[simp] theorem sizeOf171 : ∀ (w : Go.World), Go.Sem.run prog (Go.sizeOf 171) w = Go.Result.ok 1 w := by intros; kernel_rfl
@[simp] theorem sizeOf172 : ∀ (w : Go.World), Go.Sem.run prog (Go.sizeOf 172) w = Go.Result.ok 1 w := by intros; kernel_rfl
@[simp] theorem sizeOf173 : ∀ (w : Go.World), Go.Sem.run prog (Go.sizeOf 173) w = Go.Result.ok 1 w := by intros; kernel_rfl
@[simp] theorem sizeOf174 : ∀ (w : Go.World), Go.Sem.run prog (Go.sizeOf 174) w = Go.Result.ok 11 w := by intros; kernel_rfl
@[simp] theorem sizeOf175 : ∀ (w : Go.World), Go.Sem.run prog (Go.sizeOf 175) w = Go.Result.ok 11 w := by intros; kernel_rfl
@[simp] theorem sizeOf176 : ∀ (w : Go.World), Go.Sem.run prog (Go.sizeOf 176) w = Go.Result.ok 1 w := by intros; kernel_rfl
@[simp] theorem sizeOf177 : ∀ (w : Go.World), Go.Sem.run prog (Go.sizeOf 177) w = Go.Result.ok 1 w := by intros; kernel_rfl
@[simp] theorem sizeOf178 : ∀ (w : Go.World), Go.Sem.run prog (Go.sizeOf 178) w = Go.Result.ok 1 w := by intros; kernel_rfl
@[simp] theorem stoodInHeld7 : prog.stoodInHeld 7 = false := by kernel_rfl
@[simp] theorem stoodInHeld8 : prog.stoodInHeld 8 = false := by kernel_rfl
@[simp] theorem stoodInHeld13 : prog.stoodInHeld 13 = true := by kernel_rfl
@[simp] theorem stoodInHeld14 : prog.stoodInHeld 14 = true := by kernel_rfl
@[simp] theorem stoodInHeld18 : prog.stoodInHeld 18 = true := by kernel_rfl
@[simp] theorem stoodInHeld19 : prog.stoodInHeld 19 = true := by kernel_rfl
@[simp] theorem stoodInHeld28 : prog.stoodInHeld 28 = false := by kernel_rfl
@[simp] theorem stoodInHeld29 : prog.stoodInHeld 29 = false := by kernel_rfl
@[simp] theorem stoodInHeld36 : prog.stoodInHeld 36 = false := by kernel_rfl
@[simp] theorem stoodInHeld37 : prog.stoodInHeld 37 = false := by kernel_rfl
@[simp] theorem stoodInHeld38 : prog.stoodInHeld 38 = false := by kernel_rfl
@[simp] theorem stoodInHeld39 : prog.stoodInHeld 39 = false := by kernel_rfl
@[simp] theorem stoodInHeld43 : prog.stoodInHeld 43 = false := by kernel_rfl
@[simp] theorem stoodInHeld44 : prog.stoodInHeld 44 = false := by kernel_rfl
@[simp] theorem stoodInHeld54 : prog.stoodInHeld 54 = false := by kernel_rfl
@[simp] theorem stoodInHeld55 : prog.stoodInHeld 55 = false := by kernel_rfl
@[simp] theorem stoodInHeld56 : prog.stoodInHeld 56 = false := by kernel_rfl
@[simp] theorem stoodInHeld57 : prog.stoodInHeld 57 = false := by kernel_rfl
@[simp] theorem stoodInHeld83 : prog.stoodInHeld 83 = false := by kernel_rfl
@[simp] theorem stoodInHeld84 : prog.stoodInHeld 84 = false := by kernel_rfl
@[simp] theorem stoodInHeld90 : prog.stoodInHeld 90 = false := by kernel_rfl
@[simp] theorem stoodInHeld91 : prog.stoodInHeld 91 = false := by kernel_rfl
@[simp] theorem stoodInHeld94 : prog.stoodInHeld 94 = false := by kernel_rfl
@[simp] theorem stoodInHeld95 : prog.stoodInHeld 95 = false := by kernel_rfl
@[simp] theorem stoodInHeld100 : prog.stoodInHeld 100 = false := by kernel_rfl
@[simp] theorem stoodInHeld101 : prog.stoodInHeld 101 = false := by kernel_rfl
@[simp] theorem stoodInHeld117 : prog.stoodInHeld 117 = false := by kernel_rfl
@[simp] theorem stoodInHeld118 : prog.stoodInHeld 118 = false := by kernel_rfl
@[simp] theorem stoodInHeld119 : prog.stoodInHeld 119 = false := by kernel_rfl
@[simp] theorem stoodInHeld120 : prog.stoodInHeld 120 = false := by kernel_rfl
@[simp] theorem stoodInHeld122 : prog.stoodInHeld 122 = false := by kernel_rfl
@[simp] theorem stoodInHeld123 : prog.stoodInHeld 123 = false := by kernel_rfl
@[simp] theorem stoodInHeld125 : prog.stoodInHeld 125 = false := by kernel_rfl
@[simp] theorem stoodInHeld126 : prog.stoodInHeld 126 = false := by kernel_rfl
@[simp] theorem stoodInHeld162 : prog.stoodInHeld 162 = true := by kernel_rfl
@[simp] theorem stoodInHeld163 : prog.stoodInHeld 163 = true := by kernel_rfl
@[simp] theorem stoodInHeld165 : prog.stoodInHeld 165 = true := by kernel_rfl
@[simp] theorem stoodInHeld166 : prog.stoodInHeld 166 = true := by kernel_rfl
@[simp] theorem stoodInHeld174 : prog.stoodInHeld 174 = true := by kernel_rfl
@[simp] theorem stoodInHeld175 : prog.stoodInHeld 175 = true := by kernel_rfl
@[simp] theorem type0 : prog.types[0]? = Option.some Try.t0 := by kernel_rfl
@[simp] theorem type1 : prog.types[1]? = Option.some Try.t1 := by kernel_rfl
@[simp] theorem type2 : prog.types[2]? = Option.some Try.t2 := by kernel_rfl
@[simp] theorem type3 : prog.types[3]? = Option.some Try.t3 := by kernel_rfl
@[simp] theorem type4 : prog.types[4]? = Option.some Try.t4 := by kernel_rfl
@[simp] theorem type5 : prog.types[5]? = Option.some Try.t5 := by kernel_rfl
@[simp] theorem type6 : prog.types[6]? = Option.some Try.t6 := by kernel_rfl
@[simp] theorem type7 : prog.types[7]? = Option.some Try.t7 := by kernel_rfl
@[simp] theorem type8 : prog.types[8]? = Option.some Try.t8 := by kernel_rfl
@[simp] theorem type9 : prog.types[9]? = Option.some Try.t9 := by kernel_rfl
@[simp] theorem type10 : prog.types[10]? = Option.some Try.t10 := by kernel_rfl
@[simp] theorem type11 : prog.types[11]? = Option.some Try.t11 := by kernel_rfl
@[simp] theorem type12 : prog.types[12]? = Option.some Try.t12 := by kernel_rfl
@[simp] theorem type13 : prog.types[13]? = Option.some Try.t13 := by kernel_rfl
@[simp] theorem type14 : prog.types[14]? = Option.some Try.t14 := by kernel_rfl
@[simp] theorem type15 : prog.types[15]? = Option.some Try.t15 := by kernel_rfl
@[simp] theorem type16 : prog.types[16]? = Option.some Try.t16 := by kernel_rfl
@[simp] theorem type17 : prog.types[17]? = Option.some Try.t17 := by kernel_rfl
@[simp] theorem type18 : prog.types[18]? = Option.some Try.t18 := by kernel_rfl
@[simp] theorem type19 : prog.types[19]? = Option.some Try.t19 := by kernel_rfl
@[simp] theorem type20 : prog.types[20]? = Option.some Try.t20 := by kernel_rfl
@[simp] theorem type21 : prog.types[21]? = Option.some Try.t21 := by kernel_rfl
@[simp] theorem type22 : prog.types[22]? = Option.some Try.t22 := by kernel_rfl
@[simp] theorem type23 : prog.types[23]? = Option.some Try.t23 := by kernel_rfl
@[simp] theorem type24 : prog.types[24]? = Option.some Try.t24 := by kernel_rfl
@[simp] theorem type25 : prog.types[25]? = Option.some Try.t25 := by kernel_rfl
@[simp] theorem type26 : prog.types[26]? = Option.some Try.t26 := by kernel_rfl
@[simp] theorem type27 : prog.types[27]? = Option.some Try.t27 := by kernel_rfl
@[simp] theorem type28 : prog.types[28]? = Option.some Try.t28 := by kernel_rfl
@[simp] theorem type29 : prog.types[29]? = Option.some Try.t29 := by kernel_rfl
@[simp] theorem type30 : prog.types[30]? = Option.some Try.t30 := by kernel_rfl
@[simp] theorem type31 : prog.types[31]? = Option.some Try.t31 := by kernel_rfl
@[simp] theorem type32 : prog.types[32]? = Option.some Try.t32 := by kernel_rfl
@[simp] theorem type33 : prog.types[33]? = Option.some Try.t33 := by kernel_rfl
@[simp] theorem type34 : prog.types[34]? = Option.some Try.t34 := by kernel_rfl
@[simp] theorem type35 : prog.types[35]? = Option.some Try.t35 := by kernel_rfl
@[simp] theorem type36 : prog.types[36]? = Option.some Try.t36 := by kernel_rfl
@[simp] theorem type37 : prog.types[37]? = Option.some Try.t37 := by kernel_rfl
@[simp] theorem type38 : prog.types[38]? = Option.some Try.t38 := by kernel_rfl
@[simp] theorem type39 : prog.types[39]? = Option.some Try.t39 := by kernel_rfl
@[simp] theorem type40 : prog.types[40]? = Option.some Try.t40 := by kernel_rfl
@[simp] theorem type41 : prog.types[41]? = Option.some Try.t41 := by kernel_rfl
@[simp] theorem type42 : prog.types[42]? = Option.some Try.t42 := by kernel_rfl
@[simp] theorem type43 : prog.types[43]? = Option.some Try.t43 := by kernel_rfl
@[simp] theorem type44 : prog.types[44]? = Option.some Try.t44 := by kernel_rfl
@[simp] theorem type45 : prog.types[45]? = Option.some Try.t45 := by kernel_rfl
@[simp] theorem type46 : prog.types[46]? = Option.some Try.t46 := by kernel_rfl
@[simp] theorem type47 : prog.types[47]? = Option.some Try.t47 := by kernel_rfl
@[simp] theorem type48 : prog.types[48]? = Option.some Try.t48 := by kernel_rfl
@[simp] theorem type49 : prog.types[49]? = Option.some Try.t49 := by kernel_rfl
@[simp] theorem type50 : prog.types[50]? = Option.some Try.t50 := by kernel_rfl
@[simp] theorem type51 : prog.types[51]? = Option.some Try.t51 := by kernel_rfl
@[simp] theorem type52 : prog.types[52]? = Option.some Try.t52 := by kernel_rfl
@[simp] theorem type53 : prog.types[53]? = Option.some Try.t53 := by kernel_rfl
@[simp] theorem type54 : prog.types[54]? = Option.some Try.t54 := by kernel_rfl
@[simp] theorem type55 : prog.types[55]? = Option.some Try.t55 := by kernel_rfl
@[simp] theorem type56 : prog.types[56]? = Option.some Try.t56 := by kernel_rfl
@[simp] theorem type57 : prog.types[57]? = Option.some Try.t57 := by kernel_rfl
@[simp] theorem type58 : prog.types[58]? = Option.some Try.t58 := by kernel_rfl
@[simp] theorem type59 : prog.types[59]? = Option.some Try.t59 := by kernel_rfl
@[simp] theorem type60 : prog.types[60]? = Option.some Try.t60 := by kernel_rfl
@[simp] theorem type61 : prog.types[61]? = Option.some Try.t61 := by kernel_rfl
@[simp] theorem type62 : prog.types[62]? = Option.some Try.t62 := by kernel_rfl
@[simp] theorem type63 : prog.types[63]? = Option.some Try.t63 := by kernel_rfl
@[simp] theorem type64 : prog.types[64]? = Option.some Try.t64 := by kernel_rfl
@[simp] theorem type65 : prog.types[65]? = Option.some Try.t65 := by kernel_rfl
@[simp] theorem type66 : prog.types[66]? = Option.some Try.t66 := by kernel_rfl
@[simp] theorem type67 : prog.types[67]? = Option.some Try.t67 := by kernel_rfl
@[simp] theorem type68 : prog.types[68]? = Option.some Try.t68 := by kernel_rfl
@[simp] theorem type69 : prog.types[69]? = Option.some Try.t69 := by kernel_rfl
@[simp] theorem type70 : prog.types[70]? = Option.some Try.t70 := by kernel_rfl
@[simp] theorem type71 : prog.types[71]? = Option.some Try.t71 := by kernel_rfl
@[simp] theorem type72 : prog.types[72]? = Option.some Try.t72 := by kernel_rfl
@[simp] theorem type73 : prog.types[73]? = Option.some Try.t73 := by kernel_rfl
@[simp] theorem type74 : prog.types[74]? = Option.some Try.t74 := by kernel_rfl
@[simp] theorem type75 : prog.types[75]? = Option.some Try.t75 := by kernel_rfl
@[simp] theorem type76 : prog.types[76]? = Option.some Try.t76 := by kernel_rfl
@[simp] theorem type77 : prog.types[77]? = Option.some Try.t77 := by kernel_rfl
@[simp] theorem type78 : prog.types[78]? = Option.some Try.t78 := by kernel_rfl
@[simp] theorem type79 : prog.types[79]? = Option.some Try.t79 := by kernel_rfl
@[simp] theorem type80 : prog.types[80]? = Option.some Try.t80 := by kernel_rfl
@[simp] theorem type81 : prog.types[81]? = Option.some Try.t81 := by kernel_rfl
@[simp] theorem type82 : prog.types[82]? = Option.some Try.t82 := by kernel_rfl
@[simp] theorem type83 : prog.types[83]? = Option.some Try.t83 := by kernel_rfl
@[simp] theorem type84 : prog.types[84]? = Option.some Try.t84 := by kernel_rfl
@[simp] theorem type85 : prog.types[85]? = Option.some Try.t85 := by kernel_rfl
@[simp] theorem type86 : prog.types[86]? = Option.some Try.t86 := by kernel_rfl
@[simp] theorem type87 : prog.types[87]? = Option.some Try.t87 := by kernel_rfl
@[simp] theorem type88 : prog.types[88]? = Option.some Try.t88 := by kernel_rfl
@[simp] theorem type89 : prog.types[89]? = Option.some Try.t89 := by kernel_rfl
@[simp] theorem type90 : prog.types[90]? = Option.some Try.t90 := by kernel_rfl
@[simp] theorem type91 : prog.types[91]? = Option.some Try.t91 := by kernel_rfl
@[simp] theorem type92 : prog.types[92]? = Option.some Try.t92 := by kernel_rfl
@[simp] theorem type93 : prog.types[93]? = Option.some Try.t93 := by kernel_rfl
@[simp] theorem type94 : prog.types[94]? = Option.some Try.t94 := by kernel_rfl
@[simp] theorem type95 : prog.types[95]? = Option.some Try.t95 := by kernel_rfl
@[simp] theorem type96 : prog.types[96]? = Option.some Try.t96 := by kernel_rfl
@[simp] theorem type97 : prog.types[97]? = Option.some Try.t97 := by kernel_rfl
@[simp] theorem type98 : prog.types[98]? = Option.some Try.t98 := by kernel_rfl
@[simp] theorem type99 : prog.types[99]? = Option.some Try.t99 := by kernel_rfl
@[simp] theorem type100 : prog.types[100]? = Option.some Try.t100 := by kernel_rfl
@[simp] theorem type101 : prog.types[101]? = Option.some Try.t101 := by kernel_rfl
@[simp] theorem type102 : prog.types[102]? = Option.some Try.t102 := by kernel_rfl
@[simp] theorem type103 : prog.types[103]? = Option.some Try.t103 := by kernel_rfl
@[simp] theorem type104 : prog.types[104]? = Option.some Try.t104 := by kernel_rfl
@[simp] theorem type105 : prog.types[105]? = Option.some Try.t105 := by kernel_rfl
@[simp] theorem type106 : prog.types[106]? = Option.some Try.t106 := by kernel_rfl
@[simp] theorem type107 : prog.types[107]? = Option.some Try.t107 := by kernel_rfl
@[simp] theorem type108 : prog.types[108]? = Option.some Try.t108 := by kernel_rfl
@[simp] theorem type109 : prog.types[109]? = Option.some Try.t109 := by kernel_rfl
@[simp] theorem type110 : prog.types[110]? = Option.some Try.t110 := by kernel_rfl
@[simp] theorem type111 : prog.types[111]? = Option.some Try.t111 := by kernel_rfl
@[simp] theorem type112 : prog.types[112]? = Option.some Try.t112 := by kernel_rfl
@[simp] theorem type113 : prog.types[113]? = Option.some Try.t113 := by kernel_rfl
@[simp] theorem type114 : prog.types[114]? = Option.some Try.t114 := by kernel_rfl
@[simp] theorem type115 : prog.types[115]? = Option.some Try.t115 := by kernel_rfl
@[simp] theorem type116 : prog.types[116]? = Option.some Try.t116 := by kernel_rfl
@[simp] theorem type117 : prog.types[117]? = Option.some Try.t117 := by kernel_rfl
@[simp] theorem type118 : prog.types[118]? = Option.some Try.t118 := by kernel_rfl
@[simp] theorem type119 : prog.types[119]? = Option.some Try.t119 := by kernel_rfl
@[simp] theorem type120 : prog.types[120]? = Option.some Try.t120 := by kernel_rfl
@[simp] theorem type121 : prog.types[121]? = Option.some Try.t121 := by kernel_rfl
@[simp] theorem type122 : prog.types[122]? = Option.some Try.t122 := by kernel_rfl
@[simp] theorem type123 : prog.types[123]? = Option.some Try.t123 := by kernel_rfl
@[simp] theorem type124 : prog.types[124]? = Option.some Try.t124 := by kernel_rfl
@[simp] theorem type125 : prog.types[125]? = Option.some Try.t125 := by kernel_rfl
@[simp] theorem type126 : prog.types[126]? = Option.some Try.t126 := by kernel_rfl
@[simp] theorem type127 : prog.types[127]? = Option.some Try.t127 := by kernel_rfl
@[simp] theorem type128 : prog.types[128]? = Option.some Try.t128 := by kernel_rfl
@[simp] theorem type129 : prog.types[129]? = Option.some Try.t129 := by kernel_rfl
@[simp] theorem type130 : prog.types[130]? = Option.some Try.t130 := by kernel_rfl
@[simp] theorem type131 : prog.types[131]? = Option.some Try.t131 := by kernel_rfl
@[simp] theorem type132 : prog.types[132]? = Option.some Try.t132 := by kernel_rfl
@[simp] theorem type133 : prog.types[133]? = Option.some Try.t133 := by kernel_rfl
@[simp] theorem type134 : prog.types[134]? = Option.some Try.t134 := by kernel_rfl
@[simp] theorem type135 : prog.types[135]? = Option.some Try.t135 := by kernel_rfl
@[simp] theorem type136 : prog.types[136]? = Option.some Try.t136 := by kernel_rfl
@[simp] theorem type137 : prog.types[137]? = Option.some Try.t137 := by kernel_rfl
@[simp] theorem type138 : prog.types[138]? = Option.some Try.t138 := by kernel_rfl
@[simp] theorem type139 : prog.types[139]? = Option.some Try.t139 := by kernel_rfl
@[simp] theorem type140 : prog.types[140]? = Option.some Try.t140 := by kernel_rfl
@[simp] theorem type141 : prog.types[141]? = Option.some Try.t141 := by kernel_rfl
@[simp] theorem type142 : prog.types[142]? = Option.some Try.t142 := by kernel_rfl
@[simp] theorem type143 : prog.types[143]? = Option.some Try.t143 := by kernel_rfl
@[simp] theorem type144 : prog.types[144]? = Option.some Try.t144 := by kernel_rfl
@[simp] theorem type145 : prog.types[145]? = Option.some Try.t145 := by kernel_rfl
@[simp] theorem type146 : prog.types[146]? = Option.some Try.t146 := by kernel_rfl
@[simp] theorem type147 : prog.types[147]? = Option.some Try.t147 := by kernel_rfl
@[simp] theorem type148 : prog.types[148]? = Option.some Try.t148 := by kernel_rfl
@[simp] theorem type149 : prog.types[149]? = Option.some Try.t149 := by kernel_rfl
@[simp] theorem type150 : prog.types[150]? = Option.some Try.t150 := by kernel_rfl
@[simp] theorem type151 : prog.types[151]? = Option.some Try.t151 := by kernel_rfl
@[simp] theorem type152 : prog.types[152]? = Option.some Try.t152 := by kernel_rfl
@[simp] theorem type153 : prog.types[153]? = Option.some Try.t153 := by kernel_rfl
@[simp] theorem type154 : prog.types[154]? = Option.some Try.t154 := by kernel_rfl
@[simp] theorem type155 : prog.types[155]? = Option.some Try.t155 := by kernel_rfl
@[simp] theorem type156 : prog.types[156]? = Option.some Try.t156 := by kernel_rfl
@[simp] theorem type157 : prog.types[157]? = Option.some Try.t157 := by kernel_rfl
@[simp] theorem type158 : prog.types[158]? = Option.some Try.t158 := by kernel_rfl
@[simp] theorem type159 : prog.types[159]? = Option.some Try.t159 := by kernel_rfl
@[simp] theorem type160 : prog.types[160]? = Option.some Try.t160 := by kernel_rfl
@[simp] theorem type161 : prog.types[161]? = Option.some Try.t161 := by kernel_rfl
@[simp] theorem type162 : prog.types[162]? = Option.some Try.t162 := by kernel_rfl
@[simp] theorem type163 : prog.types[163]? = Option.some Try.t163 := by kernel_rfl
@[simp] theorem type164 : prog.types[164]? = Option.some Try.t164 := by kernel_rfl
@[simp] theorem type165 : prog.types[165]? = Option.some Try.t165 := by kernel_rfl
@[simp] theorem type166 : prog.types[166]? = Option.some Try.t166 := by kernel_rfl
@[simp] theorem type167 : prog.types[167]? = Option.some Try.t167 := by kernel_rfl
@[simp] theorem type168 : prog.types[168]? = Option.some Try.t168 := by kernel_rfl
@[simp] theorem type169 : prog.types[169]? = Option.some Try.t169 := by kernel_rfl
@[simp] theorem type170 : prog.types[170]? = Option.some Try.t170 := by kernel_rfl
@[simp] theorem type171 : prog.types[171]? = Option.some Try.t171 := by kernel_rfl
@[simp] theorem type172 : prog.types[172]? = Option.some Try.t172 := by kernel_rfl
@[simp] theorem type173 : prog.types[173]? = Option.some Try.t173 := by kernel_rfl
@[simp] theorem type174 : prog.types[174]? = Option.some Try.t174 := by kernel_rfl
@[simp] theorem type175 : prog.types[175]? = Option.some Try.t175 := by kernel_rfl
@[simp] theorem type176 : prog.types[176]? = Option.some Try.t176 := by kernel_rfl
@[simp] theorem type177 : prog.types[177]? = Option.some Try.t177 := by kernel_rfl
@[simp] theorem type178 : prog.types[178]? = Option.some Try.t178 := by kernel_rfl
@[simp] theorem typeInfo0 : ∀ (w : Go.World), Go.Sem.run prog (Go.typeInfo 0) w = Go.Result.ok Try.t0 w := by intros; kernel_rfl
@[simp] theorem typeInfo1 : ∀ (w : Go.World), Go.Sem.run prog (Go.typeInfo 1) w = Go.Result.ok Try.t1 w := by intros; kernel_rfl
@[simp] theorem typeInfo2 : ∀ (w : Go.World), Go.Sem.run prog (Go.typeInfo 2) w = Go.Result.ok Try.t2 w := by intros; kernel_rfl
@[simp] theorem typeInfo3 : ∀ (w : Go.World), Go.Sem.run prog (Go.typeInfo 3) w = Go.Result.ok Try.t3 w := by intros; kernel_rfl
@[simp] theorem typeInfo4 : ∀ (w : Go.World), Go.Sem.run prog (Go.typeInfo 4) w = Go.Result.ok Try.t4 w := by intros; kernel_rfl
@[simp] theorem typeInfo5 : ∀ (w : Go.World), Go.Sem.run prog (Go.typeInfo 5) w = Go.Result.ok Try.t5 w := by intros; kernel_rfl
@[simp] theorem typeInfo6 : ∀ (w : Go.World), Go.Sem.run prog (Go.typeInfo 6) w = Go.Result.ok Try.t6 w := by intros; kernel_rfl
@[simp] theorem typeInfo7 : ∀ (w : Go.World), Go.Sem.run prog (Go.typeInfo 7) w = Go.Result.ok Try.t7 w := by intros; kernel_rfl
@[simp] theorem typeInfo8 : ∀ (w : Go.World), Go.Sem.run prog (Go.typeInfo 8) w = Go.Result.ok Try.t8 w := by intros; kernel_rfl
@[simp] theorem typeInfo9 : ∀ (w : Go.World), Go.Sem.run prog (Go.typeInfo 9) w = Go.Result.ok Try.t9 w := by intros; kernel_rfl
@[simp] theorem typeInfo10 : ∀ (w : Go.World), Go.Sem.run prog (Go.typeInfo 10) w = Go.Result.ok Try.t10 w := by intros; kernel_rfl
@[simp] theorem typeInfo11 : ∀ (w : Go.World), Go.Sem.run prog (Go.typeInfo 11) w = Go.Result.ok Try.t11 w := by intros; kernel_rfl
@[simp] theorem typeInfo12 : ∀ (w : Go.World), Go.Sem.run prog (Go.typeInfo 12) w = Go.Result.ok Try.t12 w := by intros; kernel_rfl
@[simp] theorem typeInfo13 : ∀ (w : Go.World), Go.Sem.run prog (Go.typeInfo 13) w = Go.Result.ok Try.t13 w := by intros; kernel_rfl
@[simp] theorem typeInfo14 : ∀ (w : Go.World), Go.Sem.run prog (Go.typeInfo 14) w = Go.Result.ok Try.t14 w := by intros; kernel_rfl
@[simp] theorem typeInfo15 : ∀ (w : Go.World), Go.Sem.run prog (Go.typeInfo 15) w = Go.Result.ok Try.t15 w := by intros; kernel_rfl
@[simp] theorem typeInfo16 : ∀ (w : Go.World), Go.Sem.run prog (Go.typeInfo 16) w = Go.Result.ok Try.t16 w := by intros; kernel_rfl
@[simp] theorem typeInfo17 : ∀ (w : Go.World), Go.Sem.run prog (Go.typeInfo 17) w = Go.Result.ok Try.t17 w := by intros; kernel_rfl
@[simp] theorem typeInfo18 : ∀ (w : Go.World), Go.Sem.run prog (Go.typeInfo 18) w = Go.Result.ok Try.t18 w := by intros; kernel_rfl
@[simp] theorem typeInfo19 : ∀ (w : Go.World), Go.Sem.run prog (Go.typeInfo 19) w = Go.Result.ok Try.t19 w := by intros; kernel_rfl
@[simp] theorem typeInfo20 : ∀ (w : Go.World), Go.Sem.run prog (Go.typeInfo 20) w = Go.Result.ok Try.t20 w := by intros; kernel_rfl
@[simp] theorem typeInfo21 : ∀ (w : Go.World), Go.Sem.run prog (Go.typeInfo 21) w = Go.Result.ok Try.t21 w := by intros; kernel_rfl
@[simp] theorem typeInfo22 : ∀ (w : Go.World), Go.Sem.run prog (Go.typeInfo 22) w = Go.Result.ok Try.t22 w := by intros; kernel_rfl
@[simp] theorem typeInfo23 : ∀ (w : Go.World), Go.Sem.run prog (Go.typeInfo 23) w = Go.Result.ok Try.t23 w := by intros; kernel_rfl
@[simp] theorem typeInfo24 : ∀ (w : Go.World), Go.Sem.run prog (Go.typeInfo 24) w = Go.Result.ok Try.t24 w := by intros; kernel_rfl
@[simp] theorem typeInfo25 : ∀ (w : Go.World), Go.Sem.run prog (Go.typeInfo 25) w = Go.Result.ok Try.t25 w := by intros; kernel_rfl
@[simp] theorem typeInfo26 : ∀ (w : Go.World), Go.Sem.run prog (Go.typeInfo 26) w = Go.Result.ok Try.t26 w := by intros; kernel_rfl
@[simp] theorem typeInfo27 : ∀ (w : Go.World), Go.Sem.run prog (Go.typeInfo 27) w = Go.Result.ok Try.t27 w := by intros; kernel_rfl
@[simp] theorem typeInfo28 : ∀ (w : Go.World), Go.Sem.run prog (Go.typeInfo 28) w = Go.Result.ok Try.t28 w := by intros; kernel_rfl
@[simp] theorem typeInfo29 : ∀ (w : Go.World), Go.Sem.run prog (Go.typeInfo 29) w = Go.Result.ok Try.t29 w := by intros; kernel_rfl
@[simp] theorem typeInfo30 : ∀ (w : Go.World), Go.Sem.run prog (Go.typeInfo 30) w = Go.Result.ok Try.t30 w := by intros; kernel_rfl
@[simp] theorem typeInfo31 : ∀ (w : Go.World), Go.Sem.run prog (Go.typeInfo 31) w = Go.Result.ok Try.t31 w := by intros; kernel_rfl
@[simp] theorem typeInfo32 : ∀ (w : Go.World), Go.Sem.run prog (Go.typeInfo 32) w = Go.Result.ok Try.t32 w := by intros; kernel_rfl
@[simp] theorem typeInfo33 : ∀ (w : Go.World), Go.Sem.run prog (Go.typeInfo 33) w = Go.Result.ok Try.t33 w := by intros; kernel_rfl
@[simp] theorem typeInfo34 : ∀ (w : Go.World), Go.Sem.run prog (Go.typeInfo 34) w = Go.Result.ok Try.t34 w := by intros; kernel_rfl
@[simp] theorem typeInfo35 : ∀ (w : Go.World), Go.Sem.run prog (Go.typeInfo 35) w = Go.Result.ok Try.t35 w := by intros; kernel_rfl
@[simp] theorem typeInfo36 : ∀ (w : Go.World), Go.Sem.run prog (Go.typeInfo 36) w = Go.Result.ok Try.t36 w := by intros; kernel_rfl
@[simp] theorem typeInfo37 : ∀ (w : Go.World), Go.Sem.run prog (Go.typeInfo 37) w = Go.Result.ok Try.t37 w := by intros; kernel_rfl
@[simp] theorem typeInfo38 : ∀ (w : Go.World), Go.Sem.run prog (Go.typeInfo 38) w = Go.Result.ok Try.t38 w := by intros; kernel_rfl
@[simp] theorem typeInfo39 : ∀ (w : Go.World), Go.Sem.run prog (Go.typeInfo 39) w = Go.Result.ok Try.t39 w := by intros; kernel_rfl
@[simp] theorem typeInfo40 : ∀ (w : Go.World), Go.Sem.run prog (Go.typeInfo 40) w = Go.Result.ok Try.t40 w := by intros; kernel_rfl
@[simp] theorem typeInfo41 : ∀ (w : Go.World), Go.Sem.run prog (Go.typeInfo 41) w = Go.Result.ok Try.t41 w := by intros; kernel_rfl
@[simp] theorem typeInfo42 : ∀ (w : Go.World), Go.Sem.run prog (Go.typeInfo 42) w = Go.Result.ok Try.t42 w := by intros; kernel_rfl
@[simp] theorem typeInfo43 : ∀ (w : Go.World), Go.Sem.run prog (Go.typeInfo 43) w = Go.Result.ok Try.t43 w := by intros; kernel_rfl
@[simp] theorem typeInfo44 : ∀ (w : Go.World), Go.Sem.run prog (Go.typeInfo 44) w = Go.Result.ok Try.t44 w := by intros; kernel_rfl
@[simp] theorem typeInfo45 : ∀ (w : Go.World), Go.Sem.run prog (Go.typeInfo 45) w = Go.Result.ok Try.t45 w := by intros; kernel_rfl
@[simp] theorem typeInfo46 : ∀ (w : Go.World), Go.Sem.run prog (Go.typeInfo 46) w = Go.Result.ok Try.t46 w := by intros; kernel_rfl
@[simp] theorem typeInfo47 : ∀ (w : Go.World), Go.Sem.run prog (Go.typeInfo 47) w = Go.Result.ok Try.t47 w := by intros; kernel_rfl
@[simp] theorem typeInfo48 : ∀ (w : Go.World), Go.Sem.run prog (Go.typeInfo 48) w = Go.Result.ok Try.t48 w := by intros; kernel_rfl
@[simp] theorem typeInfo49 : ∀ (w : Go.World), Go.Sem.run prog (Go.typeInfo 49) w = Go.Result.ok Try.t49 w := by intros; kernel_rfl
@[simp] theorem typeInfo50 : ∀ (w : Go.World), Go.Sem.run prog (Go.typeInfo 50) w = Go.Result.ok Try.t50 w := by intros; kernel_rfl
@[simp] theorem typeInfo51 : ∀ (w : Go.World), Go.Sem.run prog (Go.typeInfo 51) w = Go.Result.ok Try.t51 w := by intros; kernel_rfl
@[simp] theorem typeInfo52 : ∀ (w : Go.World), Go.Sem.run prog (Go.typeInfo 52) w = Go.Result.ok Try.t52 w := by intros; kernel_rfl
@[simp] theorem typeInfo53 : ∀ (w : Go.World), Go.Sem.run prog (Go.typeInfo 53) w = Go.Result.ok Try.t53 w := by intros; kernel_rfl
@[simp] theorem typeInfo54 : ∀ (w : Go.World), Go.Sem.run prog (Go.typeInfo 54) w = Go.Result.ok Try.t54 w := by intros; kernel_rfl
@[simp] theorem typeInfo55 : ∀ (w : Go.World), Go.Sem.run prog (Go.typeInfo 55) w = Go.Result.ok Try.t55 w := by intros; kernel_rfl
@[simp] theorem typeInfo56 : ∀ (w : Go.World), Go.Sem.run prog (Go.typeInfo 56) w = Go.Result.ok Try.t56 w := by intros; kernel_rfl
@[simp] theorem typeInfo57 : ∀ (w : Go.World), Go.Sem.run prog (Go.typeInfo 57) w = Go.Result.ok Try.t57 w := by intros; kernel_rfl
@[simp] theorem typeInfo58 : ∀ (w : Go.World), Go.Sem.run prog (Go.typeInfo 58) w = Go.Result.ok Try.t58 w := by intros; kernel_rfl
@[simp] theorem typeInfo59 : ∀ (w : Go.World), Go.Sem.run prog (Go.typeInfo 59) w = Go.Result.ok Try.t59 w := by intros; kernel_rfl
@[simp] theorem typeInfo60 : ∀ (w : Go.World), Go.Sem.run prog (Go.typeInfo 60) w = Go.Result.ok Try.t60 w := by intros; kernel_rfl
@[simp] theorem typeInfo61 : ∀ (w : Go.World), Go.Sem.run prog (Go.typeInfo 61) w = Go.Result.ok Try.t61 w := by intros; kernel_rfl
@[simp] theorem typeInfo62 : ∀ (w : Go.World), Go.Sem.run prog (Go.typeInfo 62) w = Go.Result.ok Try.t62 w := by intros; kernel_rfl
@[simp] theorem typeInfo63 : ∀ (w : Go.World), Go.Sem.run prog (Go.typeInfo 63) w = Go.Result.ok Try.t63 w := by intros; kernel_rfl
@[simp] theorem typeInfo64 : ∀ (w : Go.World), Go.Sem.run prog (Go.typeInfo 64) w = Go.Result.ok Try.t64 w := by intros; kernel_rfl
@[simp] theorem typeInfo65 : ∀ (w : Go.World), Go.Sem.run prog (Go.typeInfo 65) w = Go.Result.ok Try.t65 w := by intros; kernel_rfl
@[simp] theorem typeInfo66 : ∀ (w : Go.World), Go.Sem.run prog (Go.typeInfo 66) w = Go.Result.ok Try.t66 w := by intros; kernel_rfl
@[simp] theorem typeInfo67 : ∀ (w : Go.World), Go.Sem.run prog (Go.typeInfo 67) w = Go.Result.ok Try.t67 w := by intros; kernel_rfl
@[simp] theorem typeInfo68 : ∀ (w : Go.World), Go.Sem.run prog (Go.typeInfo 68) w = Go.Result.ok Try.t68 w := by intros; kernel_rfl
@[simp] theorem typeInfo69 : ∀ (w : Go.World), Go.Sem.run prog (Go.typeInfo 69) w = Go.Result.ok Try.t69 w := by intros; kernel_rfl
@[simp] theorem typeInfo70 : ∀ (w : Go.World), Go.Sem.run prog (Go.typeInfo 70) w = Go.Result.ok Try.t70 w := by intros; kernel_rfl
@[simp] theorem typeInfo71 : ∀ (w : Go.World), Go.Sem.run prog (Go.typeInfo 71) w = Go.Result.ok Try.t71 w := by intros; kernel_rfl
@[simp] theorem typeInfo72 : ∀ (w : Go.World), Go.Sem.run prog (Go.typeInfo 72) w = Go.Result.ok Try.t72 w := by intros; kernel_rfl
@[simp] theorem typeInfo73 : ∀ (w : Go.World), Go.Sem.run prog (Go.typeInfo 73) w = Go.Result.ok Try.t73 w := by intros; kernel_rfl
@[simp] theorem typeInfo74 : ∀ (w : Go.World), Go.Sem.run prog (Go.typeInfo 74) w = Go.Result.ok Try.t74 w := by intros; kernel_rfl
@[simp] theorem typeInfo75 : ∀ (w : Go.World), Go.Sem.run prog (Go.typeInfo 75) w = Go.Result.ok Try.t75 w := by intros; kernel_rfl
@[simp] theorem typeInfo76 : ∀ (w : Go.World), Go.Sem.run prog (Go.typeInfo 76) w = Go.Result.ok Try.t76 w := by intros; kernel_rfl
@[simp] theorem typeInfo77 : ∀ (w : Go.World), Go.Sem.run prog (Go.typeInfo 77) w = Go.Result.ok Try.t77 w := by intros; kernel_rfl
@[simp] theorem typeInfo78 : ∀ (w : Go.World), Go.Sem.run prog (Go.typeInfo 78) w = Go.Result.ok Try.t78 w := by intros; kernel_rfl
@[simp] theorem typeInfo79 : ∀ (w : Go.World), Go.Sem.run prog (Go.typeInfo 79) w = Go.Result.ok Try.t79 w := by intros; kernel_rfl
@[simp] theorem typeInfo80 : ∀ (w : Go.World), Go.Sem.run prog (Go.typeInfo 80) w = Go.Result.ok Try.t80 w := by intros; kernel_rfl
@[simp] theorem typeInfo81 : ∀ (w : Go.World), Go.Sem.run prog (Go.typeInfo 81) w = Go.Result.ok Try.t81 w := by intros; kernel_rfl
@[simp] theorem typeInfo82 : ∀ (w : Go.World), Go.Sem.run prog (Go.typeInfo 82) w = Go.Result.ok Try.t82 w := by intros; kernel_rfl
@[simp] theorem typeInfo83 : ∀ (w : Go.World), Go.Sem.run prog (Go.typeInfo 83) w = Go.Result.ok Try.t83 w := by intros; kernel_rfl
@[simp] theorem typeInfo84 : ∀ (w : Go.World), Go.Sem.run prog (Go.typeInfo 84) w = Go.Result.ok Try.t84 w := by intros; kernel_rfl
@[simp] theorem typeInfo85 : ∀ (w : Go.World), Go.Sem.run prog (Go.typeInfo 85) w = Go.Result.ok Try.t85 w := by intros; kernel_rfl
@[simp] theorem typeInfo86 : ∀ (w : Go.World), Go.Sem.run prog (Go.typeInfo 86) w = Go.Result.ok Try.t86 w := by intros; kernel_rfl
@[simp] theorem typeInfo87 : ∀ (w : Go.World), Go.Sem.run prog (Go.typeInfo 87) w = Go.Result.ok Try.t87 w := by intros; kernel_rfl
@[simp] theorem typeInfo88 : ∀ (w : Go.World), Go.Sem.run prog (Go.typeInfo 88) w = Go.Result.ok Try.t88 w := by intros; kernel_rfl
@[simp] theorem typeInfo89 : ∀ (w : Go.World), Go.Sem.run prog (Go.typeInfo 89) w = Go.Result.ok Try.t89 w := by intros; kernel_rfl
@[simp] theorem typeInfo90 : ∀ (w : Go.World), Go.Sem.run prog (Go.typeInfo 90) w = Go.Result.ok Try.t90 w := by intros; kernel_rfl
@[simp] theorem typeInfo91 : ∀ (w : Go.World), Go.Sem.run prog (Go.typeInfo 91) w = Go.Result.ok Try.t91 w := by intros; kernel_rfl
@[simp] theorem typeInfo92 : ∀ (w : Go.World), Go.Sem.run prog (Go.typeInfo 92) w = Go.Result.ok Try.t92 w := by intros; kernel_rfl
@[simp] theorem typeInfo93 : ∀ (w : Go.World), Go.Sem.run prog (Go.typeInfo 93) w = Go.Result.ok Try.t93 w := by intros; kernel_rfl
@[simp] theorem typeInfo94 : ∀ (w : Go.World), Go.Sem.run prog (Go.typeInfo 94) w = Go.Result.ok Try.t94 w := by intros; kernel_rfl
@[simp] theorem typeInfo95 : ∀ (w : Go.World), Go.Sem.run prog (Go.typeInfo 95) w = Go.Result.ok Try.t95 w := by intros; kernel_rfl
@[simp] theorem typeInfo96 : ∀ (w : Go.World), Go.Sem.run prog (Go.typeInfo 96) w = Go.Result.ok Try.t96 w := by intros; kernel_rfl
@[simp] theorem typeInfo97 : ∀ (w : Go.World), Go.Sem.run prog (Go.typeInfo 97) w = Go.Result.ok Try.t97 w := by intros; kernel_rfl
@[simp] theorem typeInfo98 : ∀ (w : Go.World), Go.Sem.run prog (Go.typeInfo 98) w = Go.Result.ok Try.t98 w := by intros; kernel_rfl
@[simp] theorem typeInfo99 : ∀ (w : Go.World), Go.Sem.run prog (Go.typeInfo 99) w = Go.Result.ok Try.t99 w := by intros; kernel_rfl
@[simp] theorem typeInfo100 : ∀ (w : Go.World), Go.Sem.run prog (Go.typeInfo 100) w = Go.Result.ok Try.t100 w := by intros; kernel_rfl
@[simp] theorem typeInfo101 : ∀ (w : Go.World), Go.Sem.run prog (Go.typeInfo 101) w = Go.Result.ok Try.t101 w := by intros; kernel_rfl
@[simp] theorem typeInfo102 : ∀ (w : Go.World), Go.Sem.run prog (Go.typeInfo 102) w = Go.Result.ok Try.t102 w := by intros; kernel_rfl
@[simp] theorem typeInfo103 : ∀ (w : Go.World), Go.Sem.run prog (Go.typeInfo 103) w = Go.Result.ok Try.t103 w := by intros; kernel_rfl
@[simp] theorem typeInfo104 : ∀ (w : Go.World), Go.Sem.run prog (Go.typeInfo 104) w = Go.Result.ok Try.t104 w := by intros; kernel_rfl
@[simp] theorem typeInfo105 : ∀ (w : Go.World), Go.Sem.run prog (Go.typeInfo 105) w = Go.Result.ok Try.t105 w := by intros; kernel_rfl
@[simp] theorem typeInfo106 : ∀ (w : Go.World), Go.Sem.run prog (Go.typeInfo 106) w = Go.Result.ok Try.t106 w := by intros; kernel_rfl
@[simp] theorem typeInfo107 : ∀ (w : Go.World), Go.Sem.run prog (Go.typeInfo 107) w = Go.Result.ok Try.t107 w := by intros; kernel_rfl
@[simp] theorem typeInfo108 : ∀ (w : Go.World), Go.Sem.run prog (Go.typeInfo 108) w = Go.Result.ok Try.t108 w := by intros; kernel_rfl
@[simp] theorem typeInfo109 : ∀ (w : Go.World), Go.Sem.run prog (Go.typeInfo 109) w = Go.Result.ok Try.t109 w := by intros; kernel_rfl
@[simp] theorem typeInfo110 : ∀ (w : Go.World), Go.Sem.run prog (Go.typeInfo 110) w = Go.Result.ok Try.t110 w := by intros; kernel_rfl
@[simp] theorem typeInfo111 : ∀ (w : Go.World), Go.Sem.run prog (Go.typeInfo 111) w = Go.Result.ok Try.t111 w := by intros; kernel_rfl
@[simp] theorem typeInfo112 : ∀ (w : Go.World), Go.Sem.run prog (Go.typeInfo 112) w = Go.Result.ok Try.t112 w := by intros; kernel_rfl
@[simp] theorem typeInfo113 : ∀ (w : Go.World), Go.Sem.run prog (Go.typeInfo 113) w = Go.Result.ok Try.t113 w := by intros; kernel_rfl
@[simp] theorem typeInfo114 : ∀ (w : Go.World), Go.Sem.run prog (Go.typeInfo 114) w = Go.Result.ok Try.t114 w := by intros; kernel_rfl
@[simp] theorem typeInfo115 : ∀ (w : Go.World), Go.Sem.run prog (Go.typeInfo 115) w = Go.Result.ok Try.t115 w := by intros; kernel_rfl
@[simp] theorem typeInfo116 : ∀ (w : Go.World), Go.Sem.run prog (Go.typeInfo 116) w = Go.Result.ok Try.t116 w := by intros; kernel_rfl
@[simp] theorem typeInfo117 : ∀ (w : Go.World), Go.Sem.run prog (Go.typeInfo 117) w = Go.Result.ok Try.t117 w := by intros; kernel_rfl
@[simp] theorem typeInfo118 : ∀ (w : Go.World), Go.Sem.run prog (Go.typeInfo 118) w = Go.Result.ok Try.t118 w := by intros; kernel_rfl
@[simp] theorem typeInfo119 : ∀ (w : Go.World), Go.Sem.run prog (Go.typeInfo 119) w = Go.Result.ok Try.t119 w := by intros; kernel_rfl
@[simp] theorem typeInfo120 : ∀ (w : Go.World), Go.Sem.run prog (Go.typeInfo 120) w = Go.Result.ok Try.t120 w := by intros; kernel_rfl
@[simp] theorem typeInfo121 : ∀ (w : Go.World), Go.Sem.run prog (Go.typeInfo 121) w = Go.Result.ok Try.t121 w := by intros; kernel_rfl
@[simp] theorem typeInfo122 : ∀ (w : Go.World), Go.Sem.run prog (Go.typeInfo 122) w = Go.Result.ok Try.t122 w := by intros; kernel_rfl
@[simp] theorem typeInfo123 : ∀ (w : Go.World), Go.Sem.run prog (Go.typeInfo 123) w = Go.Result.ok Try.t123 w := by intros; kernel_rfl
@[simp] theorem typeInfo124 : ∀ (w : Go.World), Go.Sem.run prog (Go.typeInfo 124) w = Go.Result.ok Try.t124 w := by intros; kernel_rfl
@[simp] theorem typeInfo125 : ∀ (w : Go.World), Go.Sem.run prog (Go.typeInfo 125) w = Go.Result.ok Try.t125 w := by intros; kernel_rfl
@[simp] theorem typeInfo126 : ∀ (w : Go.World), Go.Sem.run prog (Go.typeInfo 126) w = Go.Result.ok Try.t126 w := by intros; kernel_rfl
@[simp] theorem typeInfo127 : ∀ (w : Go.World), Go.Sem.run prog (Go.typeInfo 127) w = Go.Result.ok Try.t127 w := by intros; kernel_rfl
@[simp] theorem typeInfo128 : ∀ (w : Go.World), Go.Sem.run prog (Go.typeInfo 128) w = Go.Result.ok Try.t128 w := by intros; kernel_rfl
@[simp] theorem typeInfo129 : ∀ (w : Go.World), Go.Sem.run prog (Go.typeInfo 129) w = Go.Result.ok Try.t129 w := by intros; kernel_rfl
@[simp] theorem typeInfo130 : ∀ (w : Go.World), Go.Sem.run prog (Go.typeInfo 130) w = Go.Result.ok Try.t130 w := by intros; kernel_rfl
@[simp] theorem typeInfo131 : ∀ (w : Go.World), Go.Sem.run prog (Go.typeInfo 131) w = Go.Result.ok Try.t131 w := by intros; kernel_rfl
@[simp] theorem typeInfo132 : ∀ (w : Go.World), Go.Sem.run prog (Go.typeInfo 132) w = Go.Result.ok Try.t132 w := by intros; kernel_rfl
@[simp] theorem typeInfo133 : ∀ (w : Go.World), Go.Sem.run prog (Go.typeInfo 133) w = Go.Result.ok Try.t133 w := by intros; kernel_rfl
@[simp] theorem typeInfo134 : ∀ (w : Go.World), Go.Sem.run prog (Go.typeInfo 134) w = Go.Result.ok Try.t134 w := by intros; kernel_rfl
@[simp] theorem typeInfo135 : ∀ (w : Go.World), Go.Sem.run prog (Go.typeInfo 135) w = Go.Result.ok Try.t135 w := by intros; kernel_rfl
@[simp] theorem typeInfo136 : ∀ (w : Go.World), Go.Sem.run prog (Go.typeInfo 136) w = Go.Result.ok Try.t136 w := by intros; kernel_rfl
@[simp] theorem typeInfo137 : ∀ (w : Go.World), Go.Sem.run prog (Go.typeInfo 137) w = Go.Result.ok Try.t137 w := by intros; kernel_rfl
@[simp] theorem typeInfo138 : ∀ (w : Go.World), Go.Sem.run prog (Go.typeInfo 138) w = Go.Result.ok Try.t138 w := by intros; kernel_rfl
@[simp] theorem typeInfo139 : ∀ (w : Go.World), Go.Sem.run prog (Go.typeInfo 139) w = Go.Result.ok Try.t139 w := by intros; kernel_rfl
@[simp] theorem typeInfo140 : ∀ (w : Go.World), Go.Sem.run prog (Go.typeInfo 140) w = Go.Result.ok Try.t140 w := by intros; kernel_rfl
@[simp] theorem typeInfo141 : ∀ (w : Go.World), Go.Sem.run prog (Go.typeInfo 141) w = Go.Result.ok Try.t141 w := by intros; kernel_rfl
@[simp] theorem typeInfo142 : ∀ (w : Go.World), Go.Sem.run prog (Go.typeInfo 142) w = Go.Result.ok Try.t142 w := by intros; kernel_rfl
@[simp] theorem typeInfo143 : ∀ (w : Go.World), Go.Sem.run prog (Go.typeInfo 143) w = Go.Result.ok Try.t143 w := by intros; kernel_rfl
@[simp] theorem typeInfo144 : ∀ (w : Go.World), Go.Sem.run prog (Go.typeInfo 144) w = Go.Result.ok Try.t144 w := by intros; kernel_rfl
@[simp] theorem typeInfo145 : ∀ (w : Go.World), Go.Sem.run prog (Go.typeInfo 145) w = Go.Result.ok Try.t145 w := by intros; kernel_rfl
@[simp] theorem typeInfo146 : ∀ (w : Go.World), Go.Sem.run prog (Go.typeInfo 146) w = Go.Result.ok Try.t146 w := by intros; kernel_rfl
@[simp] theorem typeInfo147 : ∀ (w : Go.World), Go.Sem.run prog (Go.typeInfo 147) w = Go.Result.ok Try.t147 w := by intros; kernel_rfl
@[simp] theorem typeInfo148 : ∀ (w : Go.World), Go.Sem.run prog (Go.typeInfo 148) w = Go.Result.ok Try.t148 w := by intros; kernel_rfl
@[simp] theorem typeInfo149 : ∀ (w : Go.World), Go.Sem.run prog (Go.typeInfo 149) w = Go.Result.ok Try.t149 w := by intros; kernel_rfl
@[simp] theorem typeInfo150 : ∀ (w : Go.World), Go.Sem.run prog (Go.typeInfo 150) w = Go.Result.ok Try.t150 w := by intros; kernel_rfl
@[simp] theorem typeInfo151 : ∀ (w : Go.World), Go.Sem.run prog (Go.typeInfo 151) w = Go.Result.ok Try.t151 w := by intros; kernel_rfl
@[simp] theorem typeInfo152 : ∀ (w : Go.World), Go.Sem.run prog (Go.typeInfo 152) w = Go.Result.ok Try.t152 w := by intros; kernel_rfl
@[simp] theorem typeInfo153 : ∀ (w : Go.World), Go.Sem.run prog (Go.typeInfo 153) w = Go.Result.ok Try.t153 w := by intros; kernel_rfl
@[simp] theorem typeInfo154 : ∀ (w : Go.World), Go.Sem.run prog (Go.typeInfo 154) w = Go.Result.ok Try.t154 w := by intros; kernel_rfl
@[simp] theorem typeInfo155 : ∀ (w : Go.World), Go.Sem.run prog (Go.typeInfo 155) w = Go.Result.ok Try.t155 w := by intros; kernel_rfl
@[simp] theorem typeInfo156 : ∀ (w : Go.World), Go.Sem.run prog (Go.typeInfo 156) w = Go.Result.ok Try.t156 w := by intros; kernel_rfl
@[simp] theorem typeInfo157 : ∀ (w : Go.World), Go.Sem.run prog (Go.typeInfo 157) w = Go.Result.ok Try.t157 w := by intros; kernel_rfl
@[simp] theorem typeInfo158 : ∀ (w : Go.World), Go.Sem.run prog (Go.typeInfo 158) w = Go.Result.ok Try.t158 w := by intros; kernel_rfl
@[simp] theorem typeInfo159 : ∀ (w : Go.World), Go.Sem.run prog (Go.typeInfo 159) w = Go.Result.ok Try.t159 w := by intros; kernel_rfl
@[simp] theorem typeInfo160 : ∀ (w : Go.World), Go.Sem.run prog (Go.typeInfo 160) w = Go.Result.ok Try.t160 w := by intros; kernel_rfl
@[simp] theorem typeInfo161 : ∀ (w : Go.World), Go.Sem.run prog (Go.typeInfo 161) w = Go.Result.ok Try.t161 w := by intros; kernel_rfl
@[simp] theorem typeInfo162 : ∀ (w : Go.World), Go.Sem.run prog (Go.typeInfo 162) w = Go.Result.ok Try.t162 w := by intros; kernel_rfl
@[simp] theorem typeInfo163 : ∀ (w : Go.World), Go.Sem.run prog (Go.typeInfo 163) w = Go.Result.ok Try.t163 w := by intros; kernel_rfl
@[simp] theorem typeInfo164 : ∀ (w : Go.World), Go.Sem.run prog (Go.typeInfo 164) w = Go.Result.ok Try.t164 w := by intros; kernel_rfl
@[simp] theorem typeInfo165 : ∀ (w : Go.World), Go.Sem.run prog (Go.typeInfo 165) w = Go.Result.ok Try.t165 w := by intros; kernel_rfl
@[simp] theorem typeInfo166 : ∀ (w : Go.World), Go.Sem.run prog (Go.typeInfo 166) w = Go.Result.ok Try.t166 w := by intros; kernel_rfl
@[simp] theorem typeInfo167 : ∀ (w : Go.World), Go.Sem.run prog (Go.typeInfo 167) w = Go.Result.ok Try.t167 w := by intros; kernel_rfl
@[simp] theorem typeInfo168 : ∀ (w : Go.World), Go.Sem.run prog (Go.typeInfo 168) w = Go.Result.ok Try.t168 w := by intros; kernel_rfl
@[simp] theorem typeInfo169 : ∀ (w : Go.World), Go.Sem.run prog (Go.typeInfo 169) w = Go.Result.ok Try.t169 w := by intros; kernel_rfl
@[simp] theorem typeInfo170 : ∀ (w : Go.World), Go.Sem.run prog (Go.typeInfo 170) w = Go.Result.ok Try.t170 w := by intros; kernel_rfl
@[simp] theorem typeInfo171 : ∀ (w : Go.World), Go.Sem.run prog (Go.typeInfo 171) w = Go.Result.ok Try.t171 w := by intros; kernel_rfl
@[simp] theorem typeInfo172 : ∀ (w : Go.World), Go.Sem.run prog (Go.typeInfo 172) w = Go.Result.ok Try.t172 w := by intros; kernel_rfl
@[simp] theorem typeInfo173 : ∀ (w : Go.World), Go.Sem.run prog (Go.typeInfo 173) w = Go.Result.ok Try.t173 w := by intros; kernel_rfl
@[simp] theorem typeInfo174 : ∀ (w : Go.World), Go.Sem.run prog (Go.typeInfo 174) w = Go.Result.ok Try.t174 w := by intros; kernel_rfl
@[simp] theorem typeInfo175 : ∀ (w : Go.World), Go.Sem.run prog (Go.typeInfo 175) w = Go.Result.ok Try.t175 w := by intros; kernel_rfl
@[simp] theorem typeInfo176 : ∀ (w : Go.World), Go.Sem.run prog (Go.typeInfo 176) w = Go.Result.ok Try.t176 w := by intros; kernel_rfl
@[simp] theorem typeInfo177 : ∀ (w : Go.World), Go.Sem.run prog (Go.typeInfo 177) w = Go.Result.ok Try.t177 w := by intros; kernel_rfl
@[simp] theorem typeInfo178 : ∀ (w : Go.World), Go.Sem.run prog (Go.typeInfo 178) w = Go.Result.ok Try.t178 w := by intros; kernel_rfl
@[simp] theorem types_size : prog.types.size = 179 := by kernel_rfl
@[simp] theorem underlying0 : prog.underlying 0 = Option.some (Go.TypeDesc.tuple #[]) := by kernel_rfl
@[simp] theorem underlying1 : prog.underlying 1 = Option.some (Go.TypeDesc.func #[] #[] false) := by kernel_rfl
@[simp] theorem underlying2 : prog.underlying 2 = Option.some (Go.TypeDesc.int Go.IntKind.i64) := by kernel_rfl
@[simp] theorem underlying3 : prog.underlying 3 = Option.some (Go.TypeDesc.int Go.IntKind.i64) := by kernel_rfl
@[simp] theorem underlying4 : prog.underlying 4 = Option.some Go.TypeDesc.bool := by kernel_rfl
@[simp] theorem underlying5 : prog.underlying 5 = Option.some (Go.TypeDesc.int Go.IntKind.u8) := by kernel_rfl
@[simp] theorem underlying6 : prog.underlying 6 = Option.some (Go.TypeDesc.int Go.IntKind.u8) := by kernel_rfl
@[simp] theorem underlying7 : prog.underlying 7 = Option.some (Go.TypeDesc.struct #[{ name := "x", type := 2, offset := 0, embedded := false, tag := "", pkgPath := "runtime", byteOffset := 0 }, { name := "y", type := 3, offset := 1, embedded := false, tag := "", pkgPath := "runtime", byteOffset := 8 }, { name := "signed", type := 4, offset := 2, embedded := false, tag := "", pkgPath := "runtime", byteOffset := 16 }, { name := "code", type := 6, offset := 3, embedded := false, tag := "", pkgPath := "runtime", byteOffset := 17 }]) := by kernel_rfl
@[simp] theorem underlying8 : prog.underlying 8 = Option.some (Go.TypeDesc.struct #[{ name := "x", type := 2, offset := 0, embedded := false, tag := "", pkgPath := "runtime", byteOffset := 0 }, { name := "y", type := 3, offset := 1, embedded := false, tag := "", pkgPath := "runtime", byteOffset := 8 }, { name := "signed", type := 4, offset := 2, embedded := false, tag := "", pkgPath := "runtime", byteOffset := 16 }, { name := "code", type := 6, offset := 3, embedded := false, tag := "", pkgPath := "runtime", byteOffset := 17 }]) := by kernel_rfl
@[simp] theorem underlying9 : prog.underlying 9 = Option.some Go.TypeDesc.string := by kernel_rfl
@[simp] theorem underlying10 : prog.underlying 10 = Option.some Go.TypeDesc.string := by kernel_rfl
@[simp] theorem underlying11 : prog.underlying 11 = Option.some Go.TypeDesc.string := by kernel_rfl
@[simp] theorem underlying12 : prog.underlying 12 = Option.some (Go.TypeDesc.int Go.IntKind.u64) := by kernel_rfl
@[simp] theorem underlying13 : prog.underlying 13 = Option.some (Go.TypeDesc.struct #[{ name := "msg", type := 9, offset := 0, embedded := false, tag := "", pkgPath := "runtime", byteOffset := 0 }, { name := "addr", type := 12, offset := 1, embedded := false, tag := "", pkgPath := "runtime", byteOffset := 16 }]) := by kernel_rfl
@[simp] theorem underlying14 : prog.underlying 14 = Option.some (Go.TypeDesc.struct #[{ name := "msg", type := 9, offset := 0, embedded := false, tag := "", pkgPath := "runtime", byteOffset := 0 }, { name := "addr", type := 12, offset := 1, embedded := false, tag := "", pkgPath := "runtime", byteOffset := 16 }]) := by kernel_rfl
@[simp] theorem underlying15 : prog.underlying 15 = Option.some (Go.TypeDesc.pointer 163) := by kernel_rfl
@[simp] theorem underlying16 : prog.underlying 16 = Option.some (Go.TypeDesc.pointer 166) := by kernel_rfl
@[simp] theorem underlying17 : prog.underlying 17 = Option.some (Go.TypeDesc.pointer 175) := by kernel_rfl
@[simp] theorem underlying18 : prog.underlying 18 = Option.some (Go.TypeDesc.struct #[{ name := "typ", type := 17, offset := 0, embedded := false, tag := "", pkgPath := "internal/runtime/maps", byteOffset := 0 }]) := by kernel_rfl
@[simp] theorem underlying19 : prog.underlying 19 = Option.some (Go.TypeDesc.struct #[{ name := "typ", type := 17, offset := 0, embedded := false, tag := "", pkgPath := "internal/runtime/maps", byteOffset := 0 }]) := by kernel_rfl
@[simp] theorem underlying20 : prog.underlying 20 = Option.some (Go.TypeDesc.interface #[]) := by kernel_rfl
@[simp] theorem underlying21 : prog.underlying 21 = Option.some (Go.TypeDesc.int Go.IntKind.i32) := by kernel_rfl
@[simp] theorem underlying22 : prog.underlying 22 = Option.some (Go.TypeDesc.slice 5) := by kernel_rfl
@[simp] theorem underlying23 : prog.underlying 23 = Option.some (Go.TypeDesc.slice 52) := by kernel_rfl
@[simp] theorem underlying24 : prog.underlying 24 = Option.some (Go.TypeDesc.slice 44) := by kernel_rfl
@[simp] theorem underlying25 : prog.underlying 25 = Option.some (Go.TypeDesc.slice 55) := by kernel_rfl
@[simp] theorem underlying26 : prog.underlying 26 = Option.some (Go.TypeDesc.slice 4) := by kernel_rfl
@[simp] theorem underlying27 : prog.underlying 27 = Option.some (Go.TypeDesc.slice 57) := by kernel_rfl
@[simp] theorem underlying28 : prog.underlying 28 = Option.some (Go.TypeDesc.struct #[{ name := "Sets", type := 23, offset := 0, embedded := false, tag := "", pkgPath := "", byteOffset := 0 }, { name := "Groups", type := 24, offset := 1, embedded := false, tag := "", pkgPath := "", byteOffset := 24 }, { name := "Rounds", type := 25, offset := 2, embedded := false, tag := "", pkgPath := "", byteOffset := 48 }, { name := "Stopped", type := 26, offset := 3, embedded := false, tag := "", pkgPath := "", byteOffset := 72 }, { name := "Net", type := 27, offset := 4, embedded := false, tag := "", pkgPath := "", byteOffset := 96 }]) := by kernel_rfl
@[simp] theorem underlying29 : prog.underlying 29 = Option.some (Go.TypeDesc.struct #[{ name := "Sets", type := 23, offset := 0, embedded := false, tag := "", pkgPath := "", byteOffset := 0 }, { name := "Groups", type := 24, offset := 1, embedded := false, tag := "", pkgPath := "", byteOffset := 24 }, { name := "Rounds", type := 25, offset := 2, embedded := false, tag := "", pkgPath := "", byteOffset := 48 }, { name := "Stopped", type := 26, offset := 3, embedded := false, tag := "", pkgPath := "", byteOffset := 72 }, { name := "Net", type := 27, offset := 4, embedded := false, tag := "", pkgPath := "", byteOffset := 96 }]) := by kernel_rfl
@[simp] theorem underlying30 : prog.underlying 30 = Option.some (Go.TypeDesc.func #[] #[29] false) := by kernel_rfl
@[simp] theorem underlying31 : prog.underlying 31 = Option.some (Go.TypeDesc.func #[29, 29] #[4] false) := by kernel_rfl
@[simp] theorem underlying32 : prog.underlying 32 = Option.some (Go.TypeDesc.func #[29] #[4] false) := by kernel_rfl
@[simp] theorem underlying33 : prog.underlying 33 = Option.some (Go.TypeDesc.func #[22] #[4] false) := by kernel_rfl
@[simp] theorem underlying34 : prog.underlying 34 = Option.some (Go.TypeDesc.func #[22] #[24] false) := by kernel_rfl
@[simp] theorem underlying35 : prog.underlying 35 = Option.some (Go.TypeDesc.func #[24] #[4] false) := by kernel_rfl
@[simp] theorem underlying36 : prog.underlying 36 = Option.some (Go.TypeDesc.struct #[{ name := "Time", type := 3, offset := 0, embedded := false, tag := "", pkgPath := "", byteOffset := 0 }, { name := "Group", type := 3, offset := 1, embedded := false, tag := "", pkgPath := "", byteOffset := 8 }]) := by kernel_rfl
@[simp] theorem underlying37 : prog.underlying 37 = Option.some (Go.TypeDesc.struct #[{ name := "Time", type := 3, offset := 0, embedded := false, tag := "", pkgPath := "", byteOffset := 0 }, { name := "Group", type := 3, offset := 1, embedded := false, tag := "", pkgPath := "", byteOffset := 8 }]) := by kernel_rfl
@[simp] theorem underlying38 : prog.underlying 38 = Option.some (Go.TypeDesc.struct #[{ name := "Message", type := 3, offset := 0, embedded := false, tag := "", pkgPath := "", byteOffset := 0 }, { name := "Stamp", type := 37, offset := 1, embedded := false, tag := "", pkgPath := "", byteOffset := 8 }, { name := "Final", type := 4, offset := 3, embedded := false, tag := "", pkgPath := "", byteOffset := 24 }]) := by kernel_rfl
@[simp] theorem underlying39 : prog.underlying 39 = Option.some (Go.TypeDesc.struct #[{ name := "Message", type := 3, offset := 0, embedded := false, tag := "", pkgPath := "", byteOffset := 0 }, { name := "Stamp", type := 37, offset := 1, embedded := false, tag := "", pkgPath := "", byteOffset := 8 }, { name := "Final", type := 4, offset := 3, embedded := false, tag := "", pkgPath := "", byteOffset := 24 }]) := by kernel_rfl
@[simp] theorem underlying40 : prog.underlying 40 = Option.some (Go.TypeDesc.tuple #[39, 4]) := by kernel_rfl
@[simp] theorem underlying41 : prog.underlying 41 = Option.some (Go.TypeDesc.func #[44, 3] #[39, 4] false) := by kernel_rfl
@[simp] theorem underlying42 : prog.underlying 42 = Option.some (Go.TypeDesc.slice 39) := by kernel_rfl
@[simp] theorem underlying43 : prog.underlying 43 = Option.some (Go.TypeDesc.struct #[{ name := "Id", type := 3, offset := 0, embedded := false, tag := "", pkgPath := "", byteOffset := 0 }, { name := "Clock", type := 3, offset := 1, embedded := false, tag := "", pkgPath := "", byteOffset := 8 }, { name := "Pending", type := 42, offset := 2, embedded := false, tag := "", pkgPath := "", byteOffset := 16 }, { name := "Done", type := 42, offset := 3, embedded := false, tag := "", pkgPath := "", byteOffset := 40 }]) := by kernel_rfl
@[simp] theorem underlying44 : prog.underlying 44 = Option.some (Go.TypeDesc.struct #[{ name := "Id", type := 3, offset := 0, embedded := false, tag := "", pkgPath := "", byteOffset := 0 }, { name := "Clock", type := 3, offset := 1, embedded := false, tag := "", pkgPath := "", byteOffset := 8 }, { name := "Pending", type := 42, offset := 2, embedded := false, tag := "", pkgPath := "", byteOffset := 16 }, { name := "Done", type := 42, offset := 3, embedded := false, tag := "", pkgPath := "", byteOffset := 40 }]) := by kernel_rfl
@[simp] theorem underlying45 : prog.underlying 45 = Option.some (Go.TypeDesc.func #[37, 37] #[4] false) := by kernel_rfl
@[simp] theorem underlying46 : prog.underlying 46 = Option.some (Go.TypeDesc.tuple #[44, 4]) := by kernel_rfl
@[simp] theorem underlying47 : prog.underlying 47 = Option.some (Go.TypeDesc.func #[3] #[44, 4] false) := by kernel_rfl
@[simp] theorem underlying48 : prog.underlying 48 = Option.some (Go.TypeDesc.func #[23, 23] #[4] false) := by kernel_rfl
@[simp] theorem underlying49 : prog.underlying 49 = Option.some (Go.TypeDesc.func #[24, 24] #[4] false) := by kernel_rfl
@[simp] theorem underlying50 : prog.underlying 50 = Option.some (Go.TypeDesc.func #[26, 26] #[4] false) := by kernel_rfl
@[simp] theorem underlying51 : prog.underlying 51 = Option.some (Go.TypeDesc.func #[55, 55] #[4] false) := by kernel_rfl
@[simp] theorem underlying52 : prog.underlying 52 = Option.some (Go.TypeDesc.slice 3) := by kernel_rfl
@[simp] theorem underlying53 : prog.underlying 53 = Option.some (Go.TypeDesc.slice 37) := by kernel_rfl
@[simp] theorem underlying54 : prog.underlying 54 = Option.some (Go.TypeDesc.struct #[{ name := "Message", type := 3, offset := 0, embedded := false, tag := "", pkgPath := "", byteOffset := 0 }, { name := "Groups", type := 52, offset := 1, embedded := false, tag := "", pkgPath := "", byteOffset := 8 }, { name := "Got", type := 53, offset := 2, embedded := false, tag := "", pkgPath := "", byteOffset := 32 }]) := by kernel_rfl
@[simp] theorem underlying55 : prog.underlying 55 = Option.some (Go.TypeDesc.struct #[{ name := "Message", type := 3, offset := 0, embedded := false, tag := "", pkgPath := "", byteOffset := 0 }, { name := "Groups", type := 52, offset := 1, embedded := false, tag := "", pkgPath := "", byteOffset := 8 }, { name := "Got", type := 53, offset := 2, embedded := false, tag := "", pkgPath := "", byteOffset := 32 }]) := by kernel_rfl
@[simp] theorem underlying56 : prog.underlying 56 = Option.some (Go.TypeDesc.struct #[{ name := "Kind", type := 3, offset := 0, embedded := false, tag := "", pkgPath := "", byteOffset := 0 }, { name := "Message", type := 3, offset := 1, embedded := false, tag := "", pkgPath := "", byteOffset := 8 }, { name := "Group", type := 3, offset := 2, embedded := false, tag := "", pkgPath := "", byteOffset := 16 }, { name := "Stamp", type := 37, offset := 3, embedded := false, tag := "", pkgPath := "", byteOffset := 24 }]) := by kernel_rfl
@[simp] theorem underlying57 : prog.underlying 57 = Option.some (Go.TypeDesc.struct #[{ name := "Kind", type := 3, offset := 0, embedded := false, tag := "", pkgPath := "", byteOffset := 0 }, { name := "Message", type := 3, offset := 1, embedded := false, tag := "", pkgPath := "", byteOffset := 8 }, { name := "Group", type := 3, offset := 2, embedded := false, tag := "", pkgPath := "", byteOffset := 16 }, { name := "Stamp", type := 37, offset := 3, embedded := false, tag := "", pkgPath := "", byteOffset := 24 }]) := by kernel_rfl
@[simp] theorem underlying58 : prog.underlying 58 = Option.some (Go.TypeDesc.func #[] #[4] false) := by kernel_rfl
@[simp] theorem underlying59 : prog.underlying 59 = Option.some (Go.TypeDesc.func #[57] #[4] false) := by kernel_rfl
@[simp] theorem underlying60 : prog.underlying 60 = Option.some (Go.TypeDesc.tuple #[24, 23]) := by kernel_rfl
@[simp] theorem underlying61 : prog.underlying 61 = Option.some (Go.TypeDesc.func #[62] #[24, 23] false) := by kernel_rfl
@[simp] theorem underlying62 : prog.underlying 62 = Option.some (Go.TypeDesc.pointer 84) := by kernel_rfl
@[simp] theorem underlying63 : prog.underlying 63 = Option.some (Go.TypeDesc.func #[22] #[62] false) := by kernel_rfl
@[simp] theorem underlying64 : prog.underlying 64 = Option.some (Go.TypeDesc.func #[44] #[4] false) := by kernel_rfl
@[simp] theorem underlying65 : prog.underlying 65 = Option.some (Go.TypeDesc.func #[24, 3] #[4] false) := by kernel_rfl
@[simp] theorem underlying66 : prog.underlying 66 = Option.some (Go.TypeDesc.array 2 42) := by kernel_rfl
@[simp] theorem underlying67 : prog.underlying 67 = Option.some (Go.TypeDesc.func #[42, 3] #[3] false) := by kernel_rfl
@[simp] theorem underlying68 : prog.underlying 68 = Option.some (Go.TypeDesc.func #[37] #[4] false) := by kernel_rfl
@[simp] theorem underlying69 : prog.underlying 69 = Option.some (Go.TypeDesc.func #[3] #[4] false) := by kernel_rfl
@[simp] theorem underlying70 : prog.underlying 70 = Option.some (Go.TypeDesc.func #[52, 52] #[4] false) := by kernel_rfl
@[simp] theorem underlying71 : prog.underlying 71 = Option.some (Go.TypeDesc.func #[44, 44] #[4] false) := by kernel_rfl
@[simp] theorem underlying72 : prog.underlying 72 = Option.some (Go.TypeDesc.func #[53, 53] #[4] false) := by kernel_rfl
@[simp] theorem underlying73 : prog.underlying 73 = Option.some (Go.TypeDesc.func #[52] #[4] false) := by kernel_rfl
@[simp] theorem underlying74 : prog.underlying 74 = Option.some (Go.TypeDesc.func #[55] #[4] false) := by kernel_rfl
@[simp] theorem underlying75 : prog.underlying 75 = Option.some (Go.TypeDesc.func #[52, 52] #[52] false) := by kernel_rfl
@[simp] theorem underlying76 : prog.underlying 76 = Option.some (Go.TypeDesc.func #[3, 37] #[4] false) := by kernel_rfl
@[simp] theorem underlying77 : prog.underlying 77 = Option.some (Go.TypeDesc.func #[42] #[42] false) := by kernel_rfl
@[simp] theorem underlying78 : prog.underlying 78 = Option.some (Go.TypeDesc.slice 3) := by kernel_rfl
@[simp] theorem underlying79 : prog.underlying 79 = Option.some (Go.TypeDesc.func #[62] #[29] false) := by kernel_rfl
@[simp] theorem underlying80 : prog.underlying 80 = Option.some (Go.TypeDesc.func #[24] #[24] false) := by kernel_rfl
@[simp] theorem underlying81 : prog.underlying 81 = Option.some (Go.TypeDesc.func #[3] #[3] false) := by kernel_rfl
@[simp] theorem underlying82 : prog.underlying 82 = Option.some (Go.TypeDesc.func #[62] #[44] false) := by kernel_rfl
@[simp] theorem underlying83 : prog.underlying 83 = Option.some (Go.TypeDesc.struct #[{ name := "b", type := 22, offset := 0, embedded := false, tag := "", pkgPath := "loop.example/groupmulticast/spec", byteOffset := 0 }, { name := "p", type := 3, offset := 1, embedded := false, tag := "", pkgPath := "loop.example/groupmulticast/spec", byteOffset := 24 }]) := by kernel_rfl
@[simp] theorem underlying84 : prog.underlying 84 = Option.some (Go.TypeDesc.struct #[{ name := "b", type := 22, offset := 0, embedded := false, tag := "", pkgPath := "loop.example/groupmulticast/spec", byteOffset := 0 }, { name := "p", type := 3, offset := 1, embedded := false, tag := "", pkgPath := "loop.example/groupmulticast/spec", byteOffset := 24 }]) := by kernel_rfl
@[simp] theorem underlying85 : prog.underlying 85 = Option.some (Go.TypeDesc.func #[44, 42] #[4] false) := by kernel_rfl
@[simp] theorem underlying86 : prog.underlying 86 = Option.some (Go.TypeDesc.array 12 4) := by kernel_rfl
@[simp] theorem underlying87 : prog.underlying 87 = Option.some (Go.TypeDesc.slice 91) := by kernel_rfl
@[simp] theorem underlying88 : prog.underlying 88 = Option.some (Go.TypeDesc.func #[24, 52, 3] #[87] false) := by kernel_rfl
@[simp] theorem underlying89 : prog.underlying 89 = Option.some (Go.TypeDesc.func #[] #[52] false) := by kernel_rfl
@[simp] theorem underlying90 : prog.underlying 90 = Option.some (Go.TypeDesc.struct #[{ name := "entry", type := 39, offset := 0, embedded := false, tag := "", pkgPath := "loop.example/groupmulticast/impl", byteOffset := 0 }, { name := "known", type := 4, offset := 4, embedded := false, tag := "", pkgPath := "loop.example/groupmulticast/impl", byteOffset := 32 }]) := by kernel_rfl
@[simp] theorem underlying91 : prog.underlying 91 = Option.some (Go.TypeDesc.struct #[{ name := "entry", type := 39, offset := 0, embedded := false, tag := "", pkgPath := "loop.example/groupmulticast/impl", byteOffset := 0 }, { name := "known", type := 4, offset := 4, embedded := false, tag := "", pkgPath := "loop.example/groupmulticast/impl", byteOffset := 32 }]) := by kernel_rfl
@[simp] theorem underlying92 : prog.underlying 92 = Option.some (Go.TypeDesc.func #[3, 3, 3] #[4] false) := by kernel_rfl
@[simp] theorem underlying93 : prog.underlying 93 = Option.some (Go.TypeDesc.func #[42, 42] #[4] false) := by kernel_rfl
@[simp] theorem underlying94 : prog.underlying 94 = Option.some (Go.TypeDesc.struct #[{ name := "groupSet", type := 78, offset := 0, embedded := true, tag := "", pkgPath := "loop.example/groupmulticast/impl", byteOffset := 0 }, { name := "got", type := 53, offset := 1, embedded := false, tag := "", pkgPath := "loop.example/groupmulticast/impl", byteOffset := 24 }]) := by kernel_rfl
@[simp] theorem underlying95 : prog.underlying 95 = Option.some (Go.TypeDesc.struct #[{ name := "groupSet", type := 78, offset := 0, embedded := true, tag := "", pkgPath := "loop.example/groupmulticast/impl", byteOffset := 0 }, { name := "got", type := 53, offset := 1, embedded := false, tag := "", pkgPath := "loop.example/groupmulticast/impl", byteOffset := 24 }]) := by kernel_rfl
@[simp] theorem underlying96 : prog.underlying 96 = Option.some (Go.TypeDesc.func #[] #[95] false) := by kernel_rfl
@[simp] theorem underlying97 : prog.underlying 97 = Option.some (Go.TypeDesc.func #[69] #[52] false) := by kernel_rfl
@[simp] theorem underlying98 : prog.underlying 98 = Option.some (Go.TypeDesc.func #[29, 3] #[29] false) := by kernel_rfl
@[simp] theorem underlying99 : prog.underlying 99 = Option.some (Go.TypeDesc.func #[29, 101] #[29] false) := by kernel_rfl
@[simp] theorem underlying100 : prog.underlying 100 = Option.some (Go.TypeDesc.struct #[{ name := "Kind", type := 3, offset := 0, embedded := false, tag := "", pkgPath := "", byteOffset := 0 }, { name := "A", type := 3, offset := 1, embedded := false, tag := "", pkgPath := "", byteOffset := 8 }]) := by kernel_rfl
@[simp] theorem underlying101 : prog.underlying 101 = Option.some (Go.TypeDesc.struct #[{ name := "Kind", type := 3, offset := 0, embedded := false, tag := "", pkgPath := "", byteOffset := 0 }, { name := "A", type := 3, offset := 1, embedded := false, tag := "", pkgPath := "", byteOffset := 8 }]) := by kernel_rfl
@[simp] theorem underlying102 : prog.underlying 102 = Option.some (Go.TypeDesc.func #[62, 29] #[101] false) := by kernel_rfl
@[simp] theorem underlying103 : prog.underlying 103 = Option.some (Go.TypeDesc.func #[44] #[44] false) := by kernel_rfl
@[simp] theorem underlying104 : prog.underlying 104 = Option.some (Go.TypeDesc.tuple #[44, 37, 4]) := by kernel_rfl
@[simp] theorem underlying105 : prog.underlying 105 = Option.some (Go.TypeDesc.func #[44, 3] #[44, 37, 4] false) := by kernel_rfl
@[simp] theorem underlying106 : prog.underlying 106 = Option.some (Go.TypeDesc.tuple #[44, 52, 4]) := by kernel_rfl
@[simp] theorem underlying107 : prog.underlying 107 = Option.some (Go.TypeDesc.func #[44, 3, 37] #[44, 52, 4] false) := by kernel_rfl
@[simp] theorem underlying108 : prog.underlying 108 = Option.some (Go.TypeDesc.func #[62] #[37] false) := by kernel_rfl
@[simp] theorem underlying109 : prog.underlying 109 = Option.some (Go.TypeDesc.func #[52, 110] #[87] false) := by kernel_rfl
@[simp] theorem underlying110 : prog.underlying 110 = Option.some (Go.TypeDesc.func #[3] #[91] false) := by kernel_rfl
@[simp] theorem underlying111 : prog.underlying 111 = Option.some (Go.TypeDesc.func #[52, 3, 3] #[4] false) := by kernel_rfl
@[simp] theorem underlying112 : prog.underlying 112 = Option.some (Go.TypeDesc.func #[29] #[29] false) := by kernel_rfl
@[simp] theorem underlying113 : prog.underlying 113 = Option.some (Go.TypeDesc.func #[3] #[52] false) := by kernel_rfl
@[simp] theorem underlying114 : prog.underlying 114 = Option.some (Go.TypeDesc.tuple #[55, 4]) := by kernel_rfl
@[simp] theorem underlying115 : prog.underlying 115 = Option.some (Go.TypeDesc.func #[3, 52] #[55, 4] false) := by kernel_rfl
@[simp] theorem underlying116 : prog.underlying 116 = Option.some (Go.TypeDesc.func #[29, 3, 52] #[29] false) := by kernel_rfl
@[simp] theorem underlying117 : prog.underlying 117 = Option.some (Go.TypeDesc.struct #[]) := by kernel_rfl
@[simp] theorem underlying118 : prog.underlying 118 = Option.some (Go.TypeDesc.struct #[]) := by kernel_rfl
@[simp] theorem underlying119 : prog.underlying 119 = Option.some (Go.TypeDesc.struct #[]) := by kernel_rfl
@[simp] theorem underlying120 : prog.underlying 120 = Option.some (Go.TypeDesc.struct #[]) := by kernel_rfl
@[simp] theorem underlying121 : prog.underlying 121 = Option.some (Go.TypeDesc.int Go.IntKind.u64) := by kernel_rfl
@[simp] theorem underlying122 : prog.underlying 122 = Option.some (Go.TypeDesc.struct #[{ name := "_", type := 119, offset := 0, embedded := false, tag := "", pkgPath := "sync/atomic", byteOffset := 0 }, { name := "_", type := 120, offset := 0, embedded := false, tag := "", pkgPath := "sync/atomic", byteOffset := 0 }, { name := "v", type := 121, offset := 0, embedded := false, tag := "", pkgPath := "sync/atomic", byteOffset := 0 }]) := by kernel_rfl
@[simp] theorem underlying123 : prog.underlying 123 = Option.some (Go.TypeDesc.struct #[{ name := "_", type := 119, offset := 0, embedded := false, tag := "", pkgPath := "sync/atomic", byteOffset := 0 }, { name := "_", type := 120, offset := 0, embedded := false, tag := "", pkgPath := "sync/atomic", byteOffset := 0 }, { name := "v", type := 121, offset := 0, embedded := false, tag := "", pkgPath := "sync/atomic", byteOffset := 0 }]) := by kernel_rfl
@[simp] theorem underlying124 : prog.underlying 124 = Option.some (Go.TypeDesc.int Go.IntKind.u32) := by kernel_rfl
@[simp] theorem underlying125 : prog.underlying 125 = Option.some (Go.TypeDesc.struct #[{ name := "noCopy", type := 118, offset := 0, embedded := false, tag := "", pkgPath := "sync", byteOffset := 0 }, { name := "state", type := 123, offset := 0, embedded := false, tag := "", pkgPath := "sync", byteOffset := 0 }, { name := "sema", type := 124, offset := 1, embedded := false, tag := "", pkgPath := "sync", byteOffset := 8 }]) := by kernel_rfl
@[simp] theorem underlying126 : prog.underlying 126 = Option.some (Go.TypeDesc.struct #[{ name := "noCopy", type := 118, offset := 0, embedded := false, tag := "", pkgPath := "sync", byteOffset := 0 }, { name := "state", type := 123, offset := 0, embedded := false, tag := "", pkgPath := "sync", byteOffset := 0 }, { name := "sema", type := 124, offset := 1, embedded := false, tag := "", pkgPath := "sync", byteOffset := 8 }]) := by kernel_rfl
@[simp] theorem underlying127 : prog.underlying 127 = Option.some (Go.TypeDesc.func #[3] #[] false) := by kernel_rfl
@[simp] theorem underlying128 : prog.underlying 128 = Option.some (Go.TypeDesc.func #[55] #[55] false) := by kernel_rfl
@[simp] theorem underlying129 : prog.underlying 129 = Option.some (Go.TypeDesc.func #[29, 57] #[29] false) := by kernel_rfl
@[simp] theorem underlying130 : prog.underlying 130 = Option.some (Go.TypeDesc.func #[55] #[52] false) := by kernel_rfl
@[simp] theorem underlying131 : prog.underlying 131 = Option.some (Go.TypeDesc.tuple #[24, 4]) := by kernel_rfl
@[simp] theorem underlying132 : prog.underlying 132 = Option.some (Go.TypeDesc.func #[24, 52, 3] #[24, 4] false) := by kernel_rfl
@[simp] theorem underlying133 : prog.underlying 133 = Option.some (Go.TypeDesc.pointer 126) := by kernel_rfl
@[simp] theorem underlying134 : prog.underlying 134 = Option.some (Go.TypeDesc.func #[135] #[] false) := by kernel_rfl
@[simp] theorem underlying135 : prog.underlying 135 = Option.some Go.TypeDesc.unsafePointer := by kernel_rfl
@[simp] theorem underlying136 : prog.underlying 136 = Option.some (Go.TypeDesc.int Go.IntKind.i64) := by kernel_rfl
@[simp] theorem underlying137 : prog.underlying 137 = Option.some (Go.TypeDesc.func #[133] #[136] false) := by kernel_rfl
@[simp] theorem underlying138 : prog.underlying 138 = Option.some (Go.TypeDesc.func #[9] #[] false) := by kernel_rfl
@[simp] theorem underlying139 : prog.underlying 139 = Option.some (Go.TypeDesc.func #[121] #[121] false) := by kernel_rfl
@[simp] theorem underlying140 : prog.underlying 140 = Option.some (Go.TypeDesc.int Go.IntKind.u64) := by kernel_rfl
@[simp] theorem underlying141 : prog.underlying 141 = Option.some (Go.TypeDesc.pointer 124) := by kernel_rfl
@[simp] theorem underlying142 : prog.underlying 142 = Option.some (Go.TypeDesc.func #[] #[121] false) := by kernel_rfl
@[simp] theorem underlying143 : prog.underlying 143 = Option.some (Go.TypeDesc.func #[121] #[] false) := by kernel_rfl
@[simp] theorem underlying144 : prog.underlying 144 = Option.some (Go.TypeDesc.func #[133] #[] false) := by kernel_rfl
@[simp] theorem underlying145 : prog.underlying 145 = Option.some (Go.TypeDesc.func #[141, 4, 3] #[] false) := by kernel_rfl
@[simp] theorem underlying146 : prog.underlying 146 = Option.some (Go.TypeDesc.func #[133] #[4] false) := by kernel_rfl
@[simp] theorem underlying147 : prog.underlying 147 = Option.some (Go.TypeDesc.func #[121, 121] #[4] false) := by kernel_rfl
@[simp] theorem underlying148 : prog.underlying 148 = Option.some (Go.TypeDesc.func #[141, 4] #[] false) := by kernel_rfl
@[simp] theorem underlying149 : prog.underlying 149 = Option.some (Go.TypeDesc.func #[55, 37] #[55, 4] false) := by kernel_rfl
@[simp] theorem underlying150 : prog.underlying 150 = Option.some (Go.TypeDesc.tuple #[37, 4]) := by kernel_rfl
@[simp] theorem underlying151 : prog.underlying 151 = Option.some (Go.TypeDesc.func #[55] #[37, 4] false) := by kernel_rfl
@[simp] theorem underlying152 : prog.underlying 152 = Option.some (Go.TypeDesc.func #[24, 52, 3] #[37, 4] false) := by kernel_rfl
@[simp] theorem underlying153 : prog.underlying 153 = Option.some (Go.TypeDesc.pointer 123) := by kernel_rfl
@[simp] theorem underlying154 : prog.underlying 154 = Option.some (Go.TypeDesc.func #[155, 121] #[121] false) := by kernel_rfl
@[simp] theorem underlying155 : prog.underlying 155 = Option.some (Go.TypeDesc.pointer 121) := by kernel_rfl
@[simp] theorem underlying156 : prog.underlying 156 = Option.some (Go.TypeDesc.func #[155] #[121] false) := by kernel_rfl
@[simp] theorem underlying157 : prog.underlying 157 = Option.some (Go.TypeDesc.func #[155, 121] #[] false) := by kernel_rfl
@[simp] theorem underlying158 : prog.underlying 158 = Option.some (Go.TypeDesc.func #[155, 121, 121] #[4] false) := by kernel_rfl
@[simp] theorem underlying159 : prog.underlying 159 = Option.some (Go.TypeDesc.func #[52, 3] #[4] false) := by kernel_rfl
@[simp] theorem underlying160 : prog.underlying 160 = Option.some (Go.TypeDesc.func #[53] #[37] false) := by kernel_rfl
@[simp] theorem underlying161 : prog.underlying 161 = Option.some (Go.TypeDesc.func #[] #[9] false) := by kernel_rfl
@[simp] theorem underlying162 : prog.underlying 162 = Option.some (Go.TypeDesc.struct #[{ name := "_interface", type := 17, offset := 0, embedded := false, tag := "", pkgPath := "runtime", byteOffset := 0 }, { name := "concrete", type := 17, offset := 1, embedded := false, tag := "", pkgPath := "runtime", byteOffset := 8 }, { name := "asserted", type := 17, offset := 2, embedded := false, tag := "", pkgPath := "runtime", byteOffset := 16 }, { name := "missingMethod", type := 9, offset := 3, embedded := false, tag := "", pkgPath := "runtime", byteOffset := 24 }]) := by kernel_rfl
@[simp] theorem underlying163 : prog.underlying 163 = Option.some (Go.TypeDesc.struct #[{ name := "_interface", type := 17, offset := 0, embedded := false, tag := "", pkgPath := "runtime", byteOffset := 0 }, { name := "concrete", type := 17, offset := 1, embedded := false, tag := "", pkgPath := "runtime", byteOffset := 8 }, { name := "asserted", type := 17, offset := 2, embedded := false, tag := "", pkgPath := "runtime", byteOffset := 16 }, { name := "missingMethod", type := 9, offset := 3, embedded := false, tag := "", pkgPath := "runtime", byteOffset := 24 }]) := by kernel_rfl
@[simp] theorem underlying164 : prog.underlying 164 = Option.some (Go.TypeDesc.array 0 16) := by kernel_rfl
@[simp] theorem underlying165 : prog.underlying 165 = Option.some (Go.TypeDesc.struct #[{ name := "_", type := 164, offset := 0, embedded := false, tag := "", pkgPath := "runtime", byteOffset := 0 }]) := by kernel_rfl
@[simp] theorem underlying166 : prog.underlying 166 = Option.some (Go.TypeDesc.struct #[{ name := "_", type := 164, offset := 0, embedded := false, tag := "", pkgPath := "runtime", byteOffset := 0 }]) := by kernel_rfl
@[simp] theorem underlying167 : prog.underlying 167 = Option.some (Go.TypeDesc.func #[] #[3] false) := by kernel_rfl
@[simp] theorem underlying168 : prog.underlying 168 = Option.some (Go.TypeDesc.int Go.IntKind.u8) := by kernel_rfl
@[simp] theorem underlying169 : prog.underlying 169 = Option.some (Go.TypeDesc.int Go.IntKind.u8) := by kernel_rfl
@[simp] theorem underlying170 : prog.underlying 170 = Option.some (Go.TypeDesc.func #[135, 135] #[4] false) := by kernel_rfl
@[simp] theorem underlying171 : prog.underlying 171 = Option.some (Go.TypeDesc.pointer 5) := by kernel_rfl
@[simp] theorem underlying172 : prog.underlying 172 = Option.some (Go.TypeDesc.int Go.IntKind.i32) := by kernel_rfl
@[simp] theorem underlying173 : prog.underlying 173 = Option.some (Go.TypeDesc.int Go.IntKind.i32) := by kernel_rfl
@[simp] theorem underlying174 : prog.underlying 174 = Option.some (Go.TypeDesc.struct #[{ name := "Size_", type := 12, offset := 0, embedded := false, tag := "", pkgPath := "", byteOffset := 0 }, { name := "PtrBytes", type := 12, offset := 1, embedded := false, tag := "", pkgPath := "", byteOffset := 8 }, { name := "Hash", type := 124, offset := 2, embedded := false, tag := "", pkgPath := "", byteOffset := 16 }, { name := "TFlag", type := 168, offset := 3, embedded := false, tag := "", pkgPath := "", byteOffset := 20 }, { name := "Align_", type := 5, offset := 4, embedded := false, tag := "", pkgPath := "", byteOffset := 21 }, { name := "FieldAlign_", type := 5, offset := 5, embedded := false, tag := "", pkgPath := "", byteOffset := 22 }, { name := "Kind_", type := 169, offset := 6, embedded := false, tag := "", pkgPath := "", byteOffset := 23 }, { name := "Equal", type := 170, offset := 7, embedded := false, tag := "", pkgPath := "", byteOffset := 24 }, { name := "GCData", type := 171, offset := 8, embedded := false, tag := "", pkgPath := "", byteOffset := 32 }, { name := "Str", type := 172, offset := 9, embedded := false, tag := "", pkgPath := "", byteOffset := 40 }, { name := "PtrToThis", type := 173, offset := 10, embedded := false, tag := "", pkgPath := "", byteOffset := 44 }]) := by kernel_rfl
@[simp] theorem underlying175 : prog.underlying 175 = Option.some (Go.TypeDesc.struct #[{ name := "Size_", type := 12, offset := 0, embedded := false, tag := "", pkgPath := "", byteOffset := 0 }, { name := "PtrBytes", type := 12, offset := 1, embedded := false, tag := "", pkgPath := "", byteOffset := 8 }, { name := "Hash", type := 124, offset := 2, embedded := false, tag := "", pkgPath := "", byteOffset := 16 }, { name := "TFlag", type := 168, offset := 3, embedded := false, tag := "", pkgPath := "", byteOffset := 20 }, { name := "Align_", type := 5, offset := 4, embedded := false, tag := "", pkgPath := "", byteOffset := 21 }, { name := "FieldAlign_", type := 5, offset := 5, embedded := false, tag := "", pkgPath := "", byteOffset := 22 }, { name := "Kind_", type := 169, offset := 6, embedded := false, tag := "", pkgPath := "", byteOffset := 23 }, { name := "Equal", type := 170, offset := 7, embedded := false, tag := "", pkgPath := "", byteOffset := 24 }, { name := "GCData", type := 171, offset := 8, embedded := false, tag := "", pkgPath := "", byteOffset := 32 }, { name := "Str", type := 172, offset := 9, embedded := false, tag := "", pkgPath := "", byteOffset := 40 }, { name := "PtrToThis", type := 173, offset := 10, embedded := false, tag := "", pkgPath := "", byteOffset := 44 }]) := by kernel_rfl
@[simp] theorem underlying176 : prog.underlying 176 = Option.some (Go.TypeDesc.func #[] #[178] false) := by kernel_rfl
@[simp] theorem underlying177 : prog.underlying 177 = Option.some (Go.TypeDesc.interface #[("loop.example/groupmulticast/impl.message", 167)]) := by kernel_rfl
@[simp] theorem underlying178 : prog.underlying 178 = Option.some (Go.TypeDesc.interface #[("loop.example/groupmulticast/impl.message", 167)]) := by kernel_rfl
@[simp] theorem zeroValue0 : ∀ (w : Go.World), Go.Sem.run prog (Go.zeroValue 0) w = Go.Result.ok (Go.Value.tuple #[]) w := by intros; kernel_rfl
@[simp] theorem zeroValue1 : ∀ (w : Go.World), Go.Sem.run prog (Go.zeroValue 1) w = Go.Result.ok Go.Value.nilFunc w := by intros; kernel_rfl
@[simp] theorem zeroValue2 : ∀ (w : Go.World), Go.Sem.run prog (Go.zeroValue 2) w = Go.Result.ok (Go.Value.int Go.IntKind.i64 0) w := by intros; kernel_rfl
@[simp] theorem zeroValue3 : ∀ (w : Go.World), Go.Sem.run prog (Go.zeroValue 3) w = Go.Result.ok (Go.Value.int Go.IntKind.i64 0) w := by intros; kernel_rfl
@[simp] theorem zeroValue4 : ∀ (w : Go.World), Go.Sem.run prog (Go.zeroValue 4) w = Go.Result.ok (Go.Value.bool false) w := by intros; kernel_rfl
@[simp] theorem zeroValue5 : ∀ (w : Go.World), Go.Sem.run prog (Go.zeroValue 5) w = Go.Result.ok (Go.Value.int Go.IntKind.u8 0) w := by intros; kernel_rfl
@[simp] theorem zeroValue6 : ∀ (w : Go.World), Go.Sem.run prog (Go.zeroValue 6) w = Go.Result.ok (Go.Value.int Go.IntKind.u8 0) w := by intros; kernel_rfl
@[simp] theorem zeroValue7 : ∀ (w : Go.World), Go.Sem.run prog (Go.zeroValue 7) w = Go.Result.ok (Go.Value.agg #[Go.Value.int Go.IntKind.i64 0, Go.Value.int Go.IntKind.i64 0, Go.Value.bool false, Go.Value.int Go.IntKind.u8 0]) w := by intros; kernel_rfl
@[simp] theorem zeroValue8 : ∀ (w : Go.World), Go.Sem.run prog (Go.zeroValue 8) w = Go.Result.ok (Go.Value.agg #[Go.Value.int Go.IntKind.i64 0, Go.Value.int Go.IntKind.i64 0, Go.Value.bool false, Go.Value.int Go.IntKind.u8 0]) w := by intros; kernel_rfl
@[simp] theorem zeroValue9 : ∀ (w : Go.World), Go.Sem.run prog (Go.zeroValue 9) w = Go.Result.ok (Go.Value.string { data := #[] }) w := by intros; kernel_rfl
@[simp] theorem zeroValue10 : ∀ (w : Go.World), Go.Sem.run prog (Go.zeroValue 10) w = Go.Result.ok (Go.Value.string { data := #[] }) w := by intros; kernel_rfl
@[simp] theorem zeroValue11 : ∀ (w : Go.World), Go.Sem.run prog (Go.zeroValue 11) w = Go.Result.ok (Go.Value.string { data := #[] }) w := by intros; kernel_rfl
@[simp] theorem zeroValue12 : ∀ (w : Go.World), Go.Sem.run prog (Go.zeroValue 12) w = Go.Result.ok (Go.Value.int Go.IntKind.u64 0) w := by intros; kernel_rfl
@[simp] theorem zeroValue13 : ∀ (w : Go.World), Go.Sem.run prog (Go.zeroValue 13) w = Go.Result.ok (Go.Value.agg #[Go.Value.string { data := #[] }, Go.Value.int Go.IntKind.u64 0]) w := by intros; kernel_rfl
@[simp] theorem zeroValue14 : ∀ (w : Go.World), Go.Sem.run prog (Go.zeroValue 14) w = Go.Result.ok (Go.Value.agg #[Go.Value.string { data := #[] }, Go.Value.int Go.IntKind.u64 0]) w := by intros; kernel_rfl
@[simp] theorem zeroValue15 : ∀ (w : Go.World), Go.Sem.run prog (Go.zeroValue 15) w = Go.Result.ok (Go.Value.pointer Option.none) w := by intros; kernel_rfl
@[simp] theorem zeroValue16 : ∀ (w : Go.World), Go.Sem.run prog (Go.zeroValue 16) w = Go.Result.ok (Go.Value.pointer Option.none) w := by intros; kernel_rfl
@[simp] theorem zeroValue17 : ∀ (w : Go.World), Go.Sem.run prog (Go.zeroValue 17) w = Go.Result.ok (Go.Value.pointer Option.none) w := by intros; kernel_rfl
@[simp] theorem zeroValue18 : ∀ (w : Go.World), Go.Sem.run prog (Go.zeroValue 18) w = Go.Result.ok (Go.Value.agg #[Go.Value.pointer Option.none]) w := by intros; kernel_rfl
@[simp] theorem zeroValue19 : ∀ (w : Go.World), Go.Sem.run prog (Go.zeroValue 19) w = Go.Result.ok (Go.Value.agg #[Go.Value.pointer Option.none]) w := by intros; kernel_rfl
@[simp] theorem zeroValue20 : ∀ (w : Go.World), Go.Sem.run prog (Go.zeroValue 20) w = Go.Result.ok Go.Value.nilIface w := by intros; kernel_rfl
@[simp] theorem zeroValue21 : ∀ (w : Go.World), Go.Sem.run prog (Go.zeroValue 21) w = Go.Result.ok (Go.Value.int Go.IntKind.i32 0) w := by intros; kernel_rfl
@[simp] theorem zeroValue22 : ∀ (w : Go.World), Go.Sem.run prog (Go.zeroValue 22) w = Go.Result.ok (Go.Value.slice Option.none 0 0) w := by intros; kernel_rfl
@[simp] theorem zeroValue23 : ∀ (w : Go.World), Go.Sem.run prog (Go.zeroValue 23) w = Go.Result.ok (Go.Value.slice Option.none 0 0) w := by intros; kernel_rfl
@[simp] theorem zeroValue24 : ∀ (w : Go.World), Go.Sem.run prog (Go.zeroValue 24) w = Go.Result.ok (Go.Value.slice Option.none 0 0) w := by intros; kernel_rfl
@[simp] theorem zeroValue25 : ∀ (w : Go.World), Go.Sem.run prog (Go.zeroValue 25) w = Go.Result.ok (Go.Value.slice Option.none 0 0) w := by intros; kernel_rfl
@[simp] theorem zeroValue26 : ∀ (w : Go.World), Go.Sem.run prog (Go.zeroValue 26) w = Go.Result.ok (Go.Value.slice Option.none 0 0) w := by intros; kernel_rfl
@[simp] theorem zeroValue27 : ∀ (w : Go.World), Go.Sem.run prog (Go.zeroValue 27) w = Go.Result.ok (Go.Value.slice Option.none 0 0) w := by intros; kernel_rfl
@[simp] theorem zeroValue28 : ∀ (w : Go.World), Go.Sem.run prog (Go.zeroValue 28) w = Go.Result.ok (Go.Value.agg #[Go.Value.slice Option.none 0 0, Go.Value.slice Option.none 0 0, Go.Value.slice Option.none 0 0, Go.Value.slice Option.none 0 0, Go.Value.slice Option.none 0 0]) w := by intros; kernel_rfl
@[simp] theorem zeroValue29 : ∀ (w : Go.World), Go.Sem.run prog (Go.zeroValue 29) w = Go.Result.ok (Go.Value.agg #[Go.Value.slice Option.none 0 0, Go.Value.slice Option.none 0 0, Go.Value.slice Option.none 0 0, Go.Value.slice Option.none 0 0, Go.Value.slice Option.none 0 0]) w := by intros; kernel_rfl
@[simp] theorem zeroValue30 : ∀ (w : Go.World), Go.Sem.run prog (Go.zeroValue 30) w = Go.Result.ok Go.Value.nilFunc w := by intros; kernel_rfl
@[simp] theorem zeroValue31 : ∀ (w : Go.World), Go.Sem.run prog (Go.zeroValue 31) w = Go.Result.ok Go.Value.nilFunc w := by intros; kernel_rfl
@[simp] theorem zeroValue32 : ∀ (w : Go.World), Go.Sem.run prog (Go.zeroValue 32) w = Go.Result.ok Go.Value.nilFunc w := by intros; kernel_rfl
@[simp] theorem zeroValue33 : ∀ (w : Go.World), Go.Sem.run prog (Go.zeroValue 33) w = Go.Result.ok Go.Value.nilFunc w := by intros; kernel_rfl
@[simp] theorem zeroValue34 : ∀ (w : Go.World), Go.Sem.run prog (Go.zeroValue 34) w = Go.Result.ok Go.Value.nilFunc w := by intros; kernel_rfl
@[simp] theorem zeroValue35 : ∀ (w : Go.World), Go.Sem.run prog (Go.zeroValue 35) w = Go.Result.ok Go.Value.nilFunc w := by intros; kernel_rfl
@[simp] theorem zeroValue36 : ∀ (w : Go.World), Go.Sem.run prog (Go.zeroValue 36) w = Go.Result.ok (Go.Value.agg #[Go.Value.int Go.IntKind.i64 0, Go.Value.int Go.IntKind.i64 0]) w := by intros; kernel_rfl
@[simp] theorem zeroValue37 : ∀ (w : Go.World), Go.Sem.run prog (Go.zeroValue 37) w = Go.Result.ok (Go.Value.agg #[Go.Value.int Go.IntKind.i64 0, Go.Value.int Go.IntKind.i64 0]) w := by intros; kernel_rfl
@[simp] theorem zeroValue38 : ∀ (w : Go.World), Go.Sem.run prog (Go.zeroValue 38) w = Go.Result.ok (Go.Value.agg #[Go.Value.int Go.IntKind.i64 0, Go.Value.int Go.IntKind.i64 0, Go.Value.int Go.IntKind.i64 0, Go.Value.bool false]) w := by intros; kernel_rfl
@[simp] theorem zeroValue39 : ∀ (w : Go.World), Go.Sem.run prog (Go.zeroValue 39) w = Go.Result.ok (Go.Value.agg #[Go.Value.int Go.IntKind.i64 0, Go.Value.int Go.IntKind.i64 0, Go.Value.int Go.IntKind.i64 0, Go.Value.bool false]) w := by intros; kernel_rfl
@[simp] theorem zeroValue40 : ∀ (w : Go.World), Go.Sem.run prog (Go.zeroValue 40) w = Go.Result.ok (Go.Value.tuple #[Go.Value.agg #[Go.Value.int Go.IntKind.i64 0, Go.Value.int Go.IntKind.i64 0, Go.Value.int Go.IntKind.i64 0, Go.Value.bool false], Go.Value.bool false]) w := by intros; kernel_rfl
@[simp] theorem zeroValue41 : ∀ (w : Go.World), Go.Sem.run prog (Go.zeroValue 41) w = Go.Result.ok Go.Value.nilFunc w := by intros; kernel_rfl
@[simp] theorem zeroValue42 : ∀ (w : Go.World), Go.Sem.run prog (Go.zeroValue 42) w = Go.Result.ok (Go.Value.slice Option.none 0 0) w := by intros; kernel_rfl
@[simp] theorem zeroValue43 : ∀ (w : Go.World), Go.Sem.run prog (Go.zeroValue 43) w = Go.Result.ok (Go.Value.agg #[Go.Value.int Go.IntKind.i64 0, Go.Value.int Go.IntKind.i64 0, Go.Value.slice Option.none 0 0, Go.Value.slice Option.none 0 0]) w := by intros; kernel_rfl
@[simp] theorem zeroValue44 : ∀ (w : Go.World), Go.Sem.run prog (Go.zeroValue 44) w = Go.Result.ok (Go.Value.agg #[Go.Value.int Go.IntKind.i64 0, Go.Value.int Go.IntKind.i64 0, Go.Value.slice Option.none 0 0, Go.Value.slice Option.none 0 0]) w := by intros; kernel_rfl
@[simp] theorem zeroValue45 : ∀ (w : Go.World), Go.Sem.run prog (Go.zeroValue 45) w = Go.Result.ok Go.Value.nilFunc w := by intros; kernel_rfl
@[simp] theorem zeroValue46 : ∀ (w : Go.World), Go.Sem.run prog (Go.zeroValue 46) w = Go.Result.ok (Go.Value.tuple #[Go.Value.agg #[Go.Value.int Go.IntKind.i64 0, Go.Value.int Go.IntKind.i64 0, Go.Value.slice Option.none 0 0, Go.Value.slice Option.none 0 0], Go.Value.bool false]) w := by intros; kernel_rfl
@[simp] theorem zeroValue47 : ∀ (w : Go.World), Go.Sem.run prog (Go.zeroValue 47) w = Go.Result.ok Go.Value.nilFunc w := by intros; kernel_rfl
@[simp] theorem zeroValue48 : ∀ (w : Go.World), Go.Sem.run prog (Go.zeroValue 48) w = Go.Result.ok Go.Value.nilFunc w := by intros; kernel_rfl
@[simp] theorem zeroValue49 : ∀ (w : Go.World), Go.Sem.run prog (Go.zeroValue 49) w = Go.Result.ok Go.Value.nilFunc w := by intros; kernel_rfl
@[simp] theorem zeroValue50 : ∀ (w : Go.World), Go.Sem.run prog (Go.zeroValue 50) w = Go.Result.ok Go.Value.nilFunc w := by intros; kernel_rfl
@[simp] theorem zeroValue51 : ∀ (w : Go.World), Go.Sem.run prog (Go.zeroValue 51) w = Go.Result.ok Go.Value.nilFunc w := by intros; kernel_rfl
@[simp] theorem zeroValue52 : ∀ (w : Go.World), Go.Sem.run prog (Go.zeroValue 52) w = Go.Result.ok (Go.Value.slice Option.none 0 0) w := by intros; kernel_rfl
@[simp] theorem zeroValue53 : ∀ (w : Go.World), Go.Sem.run prog (Go.zeroValue 53) w = Go.Result.ok (Go.Value.slice Option.none 0 0) w := by intros; kernel_rfl
@[simp] theorem zeroValue54 : ∀ (w : Go.World), Go.Sem.run prog (Go.zeroValue 54) w = Go.Result.ok (Go.Value.agg #[Go.Value.int Go.IntKind.i64 0, Go.Value.slice Option.none 0 0, Go.Value.slice Option.none 0 0]) w := by intros; kernel_rfl
@[simp] theorem zeroValue55 : ∀ (w : Go.World), Go.Sem.run prog (Go.zeroValue 55) w = Go.Result.ok (Go.Value.agg #[Go.Value.int Go.IntKind.i64 0, Go.Value.slice Option.none 0 0, Go.Value.slice Option.none 0 0]) w := by intros; kernel_rfl
@[simp] theorem zeroValue56 : ∀ (w : Go.World), Go.Sem.run prog (Go.zeroValue 56) w = Go.Result.ok (Go.Value.agg #[Go.Value.int Go.IntKind.i64 0, Go.Value.int Go.IntKind.i64 0, Go.Value.int Go.IntKind.i64 0, Go.Value.int Go.IntKind.i64 0, Go.Value.int Go.IntKind.i64 0]) w := by intros; kernel_rfl
@[simp] theorem zeroValue57 : ∀ (w : Go.World), Go.Sem.run prog (Go.zeroValue 57) w = Go.Result.ok (Go.Value.agg #[Go.Value.int Go.IntKind.i64 0, Go.Value.int Go.IntKind.i64 0, Go.Value.int Go.IntKind.i64 0, Go.Value.int Go.IntKind.i64 0, Go.Value.int Go.IntKind.i64 0]) w := by intros; kernel_rfl
@[simp] theorem zeroValue58 : ∀ (w : Go.World), Go.Sem.run prog (Go.zeroValue 58) w = Go.Result.ok Go.Value.nilFunc w := by intros; kernel_rfl
@[simp] theorem zeroValue59 : ∀ (w : Go.World), Go.Sem.run prog (Go.zeroValue 59) w = Go.Result.ok Go.Value.nilFunc w := by intros; kernel_rfl
@[simp] theorem zeroValue60 : ∀ (w : Go.World), Go.Sem.run prog (Go.zeroValue 60) w = Go.Result.ok (Go.Value.tuple #[Go.Value.slice Option.none 0 0, Go.Value.slice Option.none 0 0]) w := by intros; kernel_rfl
@[simp] theorem zeroValue61 : ∀ (w : Go.World), Go.Sem.run prog (Go.zeroValue 61) w = Go.Result.ok Go.Value.nilFunc w := by intros; kernel_rfl
@[simp] theorem zeroValue62 : ∀ (w : Go.World), Go.Sem.run prog (Go.zeroValue 62) w = Go.Result.ok (Go.Value.pointer Option.none) w := by intros; kernel_rfl
@[simp] theorem zeroValue63 : ∀ (w : Go.World), Go.Sem.run prog (Go.zeroValue 63) w = Go.Result.ok Go.Value.nilFunc w := by intros; kernel_rfl
@[simp] theorem zeroValue64 : ∀ (w : Go.World), Go.Sem.run prog (Go.zeroValue 64) w = Go.Result.ok Go.Value.nilFunc w := by intros; kernel_rfl
@[simp] theorem zeroValue65 : ∀ (w : Go.World), Go.Sem.run prog (Go.zeroValue 65) w = Go.Result.ok Go.Value.nilFunc w := by intros; kernel_rfl
@[simp] theorem zeroValue66 : ∀ (w : Go.World), Go.Sem.run prog (Go.zeroValue 66) w = Go.Result.ok (Go.Value.agg #[Go.Value.slice Option.none 0 0, Go.Value.slice Option.none 0 0]) w := by intros; kernel_rfl
@[simp] theorem zeroValue67 : ∀ (w : Go.World), Go.Sem.run prog (Go.zeroValue 67) w = Go.Result.ok Go.Value.nilFunc w := by intros; kernel_rfl
@[simp] theorem zeroValue68 : ∀ (w : Go.World), Go.Sem.run prog (Go.zeroValue 68) w = Go.Result.ok Go.Value.nilFunc w := by intros; kernel_rfl
@[simp] theorem zeroValue69 : ∀ (w : Go.World), Go.Sem.run prog (Go.zeroValue 69) w = Go.Result.ok Go.Value.nilFunc w := by intros; kernel_rfl
@[simp] theorem zeroValue70 : ∀ (w : Go.World), Go.Sem.run prog (Go.zeroValue 70) w = Go.Result.ok Go.Value.nilFunc w := by intros; kernel_rfl
@[simp] theorem zeroValue71 : ∀ (w : Go.World), Go.Sem.run prog (Go.zeroValue 71) w = Go.Result.ok Go.Value.nilFunc w := by intros; kernel_rfl
@[simp] theorem zeroValue72 : ∀ (w : Go.World), Go.Sem.run prog (Go.zeroValue 72) w = Go.Result.ok Go.Value.nilFunc w := by intros; kernel_rfl
@[simp] theorem zeroValue73 : ∀ (w : Go.World), Go.Sem.run prog (Go.zeroValue 73) w = Go.Result.ok Go.Value.nilFunc w := by intros; kernel_rfl
@[simp] theorem zeroValue74 : ∀ (w : Go.World), Go.Sem.run prog (Go.zeroValue 74) w = Go.Result.ok Go.Value.nilFunc w := by intros; kernel_rfl
@[simp] theorem zeroValue75 : ∀ (w : Go.World), Go.Sem.run prog (Go.zeroValue 75) w = Go.Result.ok Go.Value.nilFunc w := by intros; kernel_rfl
@[simp] theorem zeroValue76 : ∀ (w : Go.World), Go.Sem.run prog (Go.zeroValue 76) w = Go.Result.ok Go.Value.nilFunc w := by intros; kernel_rfl
@[simp] theorem zeroValue77 : ∀ (w : Go.World), Go.Sem.run prog (Go.zeroValue 77) w = Go.Result.ok Go.Value.nilFunc w := by intros; kernel_rfl
@[simp] theorem zeroValue78 : ∀ (w : Go.World), Go.Sem.run prog (Go.zeroValue 78) w = Go.Result.ok (Go.Value.slice Option.none 0 0) w := by intros; kernel_rfl
@[simp] theorem zeroValue79 : ∀ (w : Go.World), Go.Sem.run prog (Go.zeroValue 79) w = Go.Result.ok Go.Value.nilFunc w := by intros; kernel_rfl
@[simp] theorem zeroValue80 : ∀ (w : Go.World), Go.Sem.run prog (Go.zeroValue 80) w = Go.Result.ok Go.Value.nilFunc w := by intros; kernel_rfl
@[simp] theorem zeroValue81 : ∀ (w : Go.World), Go.Sem.run prog (Go.zeroValue 81) w = Go.Result.ok Go.Value.nilFunc w := by intros; kernel_rfl
@[simp] theorem zeroValue82 : ∀ (w : Go.World), Go.Sem.run prog (Go.zeroValue 82) w = Go.Result.ok Go.Value.nilFunc w := by intros; kernel_rfl
@[simp] theorem zeroValue83 : ∀ (w : Go.World), Go.Sem.run prog (Go.zeroValue 83) w = Go.Result.ok (Go.Value.agg #[Go.Value.slice Option.none 0 0, Go.Value.int Go.IntKind.i64 0]) w := by intros; kernel_rfl
@[simp] theorem zeroValue84 : ∀ (w : Go.World), Go.Sem.run prog (Go.zeroValue 84) w = Go.Result.ok (Go.Value.agg #[Go.Value.slice Option.none 0 0, Go.Value.int Go.IntKind.i64 0]) w := by intros; kernel_rfl
@[simp] theorem zeroValue85 : ∀ (w : Go.World), Go.Sem.run prog (Go.zeroValue 85) w = Go.Result.ok Go.Value.nilFunc w := by intros; kernel_rfl
@[simp] theorem zeroValue86 : ∀ (w : Go.World), Go.Sem.run prog (Go.zeroValue 86) w = Go.Result.ok (Go.Value.agg #[Go.Value.bool false, Go.Value.bool false, Go.Value.bool false, Go.Value.bool false, Go.Value.bool false, Go.Value.bool false, Go.Value.bool false, Go.Value.bool false, Go.Value.bool false, Go.Value.bool false, Go.Value.bool false, Go.Value.bool false]) w := by intros; kernel_rfl
@[simp] theorem zeroValue87 : ∀ (w : Go.World), Go.Sem.run prog (Go.zeroValue 87) w = Go.Result.ok (Go.Value.slice Option.none 0 0) w := by intros; kernel_rfl
@[simp] theorem zeroValue88 : ∀ (w : Go.World), Go.Sem.run prog (Go.zeroValue 88) w = Go.Result.ok Go.Value.nilFunc w := by intros; kernel_rfl
@[simp] theorem zeroValue89 : ∀ (w : Go.World), Go.Sem.run prog (Go.zeroValue 89) w = Go.Result.ok Go.Value.nilFunc w := by intros; kernel_rfl
@[simp] theorem zeroValue90 : ∀ (w : Go.World), Go.Sem.run prog (Go.zeroValue 90) w = Go.Result.ok (Go.Value.agg #[Go.Value.int Go.IntKind.i64 0, Go.Value.int Go.IntKind.i64 0, Go.Value.int Go.IntKind.i64 0, Go.Value.bool false, Go.Value.bool false]) w := by intros; kernel_rfl
@[simp] theorem zeroValue91 : ∀ (w : Go.World), Go.Sem.run prog (Go.zeroValue 91) w = Go.Result.ok (Go.Value.agg #[Go.Value.int Go.IntKind.i64 0, Go.Value.int Go.IntKind.i64 0, Go.Value.int Go.IntKind.i64 0, Go.Value.bool false, Go.Value.bool false]) w := by intros; kernel_rfl
@[simp] theorem zeroValue92 : ∀ (w : Go.World), Go.Sem.run prog (Go.zeroValue 92) w = Go.Result.ok Go.Value.nilFunc w := by intros; kernel_rfl
@[simp] theorem zeroValue93 : ∀ (w : Go.World), Go.Sem.run prog (Go.zeroValue 93) w = Go.Result.ok Go.Value.nilFunc w := by intros; kernel_rfl
@[simp] theorem zeroValue94 : ∀ (w : Go.World), Go.Sem.run prog (Go.zeroValue 94) w = Go.Result.ok (Go.Value.agg #[Go.Value.slice Option.none 0 0, Go.Value.slice Option.none 0 0]) w := by intros; kernel_rfl
@[simp] theorem zeroValue95 : ∀ (w : Go.World), Go.Sem.run prog (Go.zeroValue 95) w = Go.Result.ok (Go.Value.agg #[Go.Value.slice Option.none 0 0, Go.Value.slice Option.none 0 0]) w := by intros; kernel_rfl
@[simp] theorem zeroValue96 : ∀ (w : Go.World), Go.Sem.run prog (Go.zeroValue 96) w = Go.Result.ok Go.Value.nilFunc w := by intros; kernel_rfl
@[simp] theorem zeroValue97 : ∀ (w : Go.World), Go.Sem.run prog (Go.zeroValue 97) w = Go.Result.ok Go.Value.nilFunc w := by intros; kernel_rfl
@[simp] theorem zeroValue98 : ∀ (w : Go.World), Go.Sem.run prog (Go.zeroValue 98) w = Go.Result.ok Go.Value.nilFunc w := by intros; kernel_rfl
@[simp] theorem zeroValue99 : ∀ (w : Go.World), Go.Sem.run prog (Go.zeroValue 99) w = Go.Result.ok Go.Value.nilFunc w := by intros; kernel_rfl
@[simp] theorem zeroValue100 : ∀ (w : Go.World), Go.Sem.run prog (Go.zeroValue 100) w = Go.Result.ok (Go.Value.agg #[Go.Value.int Go.IntKind.i64 0, Go.Value.int Go.IntKind.i64 0]) w := by intros; kernel_rfl
@[simp] theorem zeroValue101 : ∀ (w : Go.World), Go.Sem.run prog (Go.zeroValue 101) w = Go.Result.ok (Go.Value.agg #[Go.Value.int Go.IntKind.i64 0, Go.Value.int Go.IntKind.i64 0]) w := by intros; kernel_rfl
@[simp] theorem zeroValue102 : ∀ (w : Go.World), Go.Sem.run prog (Go.zeroValue 102) w = Go.Result.ok Go.Value.nilFunc w := by intros; kernel_rfl
@[simp] theorem zeroValue103 : ∀ (w : Go.World), Go.Sem.run prog (Go.zeroValue 103) w = Go.Result.ok Go.Value.nilFunc w := by intros; kernel_rfl
@[simp] theorem zeroValue104 : ∀ (w : Go.World), Go.Sem.run prog (Go.zeroValue 104) w = Go.Result.ok (Go.Value.tuple #[Go.Value.agg #[Go.Value.int Go.IntKind.i64 0, Go.Value.int Go.IntKind.i64 0, Go.Value.slice Option.none 0 0, Go.Value.slice Option.none 0 0], Go.Value.agg #[Go.Value.int Go.IntKind.i64 0, Go.Value.int Go.IntKind.i64 0], Go.Value.bool false]) w := by intros; kernel_rfl
@[simp] theorem zeroValue105 : ∀ (w : Go.World), Go.Sem.run prog (Go.zeroValue 105) w = Go.Result.ok Go.Value.nilFunc w := by intros; kernel_rfl
@[simp] theorem zeroValue106 : ∀ (w : Go.World), Go.Sem.run prog (Go.zeroValue 106) w = Go.Result.ok (Go.Value.tuple #[Go.Value.agg #[Go.Value.int Go.IntKind.i64 0, Go.Value.int Go.IntKind.i64 0, Go.Value.slice Option.none 0 0, Go.Value.slice Option.none 0 0], Go.Value.slice Option.none 0 0, Go.Value.bool false]) w := by intros; kernel_rfl
@[simp] theorem zeroValue107 : ∀ (w : Go.World), Go.Sem.run prog (Go.zeroValue 107) w = Go.Result.ok Go.Value.nilFunc w := by intros; kernel_rfl
@[simp] theorem zeroValue108 : ∀ (w : Go.World), Go.Sem.run prog (Go.zeroValue 108) w = Go.Result.ok Go.Value.nilFunc w := by intros; kernel_rfl
@[simp] theorem zeroValue109 : ∀ (w : Go.World), Go.Sem.run prog (Go.zeroValue 109) w = Go.Result.ok Go.Value.nilFunc w := by intros; kernel_rfl
@[simp] theorem zeroValue110 : ∀ (w : Go.World), Go.Sem.run prog (Go.zeroValue 110) w = Go.Result.ok Go.Value.nilFunc w := by intros; kernel_rfl
@[simp] theorem zeroValue111 : ∀ (w : Go.World), Go.Sem.run prog (Go.zeroValue 111) w = Go.Result.ok Go.Value.nilFunc w := by intros; kernel_rfl
@[simp] theorem zeroValue112 : ∀ (w : Go.World), Go.Sem.run prog (Go.zeroValue 112) w = Go.Result.ok Go.Value.nilFunc w := by intros; kernel_rfl
@[simp] theorem zeroValue113 : ∀ (w : Go.World), Go.Sem.run prog (Go.zeroValue 113) w = Go.Result.ok Go.Value.nilFunc w := by intros; kernel_rfl
@[simp] theorem zeroValue114 : ∀ (w : Go.World), Go.Sem.run prog (Go.zeroValue 114) w = Go.Result.ok (Go.Value.tuple #[Go.Value.agg #[Go.Value.int Go.IntKind.i64 0, Go.Value.slice Option.none 0 0, Go.Value.slice Option.none 0 0], Go.Value.bool false]) w := by intros; kernel_rfl
@[simp] theorem zeroValue115 : ∀ (w : Go.World), Go.Sem.run prog (Go.zeroValue 115) w = Go.Result.ok Go.Value.nilFunc w := by intros; kernel_rfl
@[simp] theorem zeroValue116 : ∀ (w : Go.World), Go.Sem.run prog (Go.zeroValue 116) w = Go.Result.ok Go.Value.nilFunc w := by intros; kernel_rfl
@[simp] theorem zeroValue117 : ∀ (w : Go.World), Go.Sem.run prog (Go.zeroValue 117) w = Go.Result.ok (Go.Value.agg #[]) w := by intros; kernel_rfl
@[simp] theorem zeroValue118 : ∀ (w : Go.World), Go.Sem.run prog (Go.zeroValue 118) w = Go.Result.ok (Go.Value.agg #[]) w := by intros; kernel_rfl
@[simp] theorem zeroValue119 : ∀ (w : Go.World), Go.Sem.run prog (Go.zeroValue 119) w = Go.Result.ok (Go.Value.agg #[]) w := by intros; kernel_rfl
@[simp] theorem zeroValue120 : ∀ (w : Go.World), Go.Sem.run prog (Go.zeroValue 120) w = Go.Result.ok (Go.Value.agg #[]) w := by intros; kernel_rfl
@[simp] theorem zeroValue121 : ∀ (w : Go.World), Go.Sem.run prog (Go.zeroValue 121) w = Go.Result.ok (Go.Value.int Go.IntKind.u64 0) w := by intros; kernel_rfl
@[simp] theorem zeroValue122 : ∀ (w : Go.World), Go.Sem.run prog (Go.zeroValue 122) w = Go.Result.ok (Go.Value.agg #[Go.Value.int Go.IntKind.u64 0]) w := by intros; kernel_rfl
@[simp] theorem zeroValue123 : ∀ (w : Go.World), Go.Sem.run prog (Go.zeroValue 123) w = Go.Result.ok (Go.Value.agg #[Go.Value.int Go.IntKind.u64 0]) w := by intros; kernel_rfl
@[simp] theorem zeroValue124 : ∀ (w : Go.World), Go.Sem.run prog (Go.zeroValue 124) w = Go.Result.ok (Go.Value.int Go.IntKind.u32 0) w := by intros; kernel_rfl
@[simp] theorem zeroValue125 : ∀ (w : Go.World), Go.Sem.run prog (Go.zeroValue 125) w = Go.Result.ok (Go.Value.agg #[Go.Value.int Go.IntKind.u64 0, Go.Value.int Go.IntKind.u32 0]) w := by intros; kernel_rfl
@[simp] theorem zeroValue126 : ∀ (w : Go.World), Go.Sem.run prog (Go.zeroValue 126) w = Go.Result.ok (Go.Value.agg #[Go.Value.int Go.IntKind.u64 0, Go.Value.int Go.IntKind.u32 0]) w := by intros; kernel_rfl
@[simp] theorem zeroValue127 : ∀ (w : Go.World), Go.Sem.run prog (Go.zeroValue 127) w = Go.Result.ok Go.Value.nilFunc w := by intros; kernel_rfl
@[simp] theorem zeroValue128 : ∀ (w : Go.World), Go.Sem.run prog (Go.zeroValue 128) w = Go.Result.ok Go.Value.nilFunc w := by intros; kernel_rfl
@[simp] theorem zeroValue129 : ∀ (w : Go.World), Go.Sem.run prog (Go.zeroValue 129) w = Go.Result.ok Go.Value.nilFunc w := by intros; kernel_rfl
@[simp] theorem zeroValue130 : ∀ (w : Go.World), Go.Sem.run prog (Go.zeroValue 130) w = Go.Result.ok Go.Value.nilFunc w := by intros; kernel_rfl
@[simp] theorem zeroValue131 : ∀ (w : Go.World), Go.Sem.run prog (Go.zeroValue 131) w = Go.Result.ok (Go.Value.tuple #[Go.Value.slice Option.none 0 0, Go.Value.bool false]) w := by intros; kernel_rfl
@[simp] theorem zeroValue132 : ∀ (w : Go.World), Go.Sem.run prog (Go.zeroValue 132) w = Go.Result.ok Go.Value.nilFunc w := by intros; kernel_rfl
@[simp] theorem zeroValue133 : ∀ (w : Go.World), Go.Sem.run prog (Go.zeroValue 133) w = Go.Result.ok (Go.Value.pointer Option.none) w := by intros; kernel_rfl
@[simp] theorem zeroValue134 : ∀ (w : Go.World), Go.Sem.run prog (Go.zeroValue 134) w = Go.Result.ok Go.Value.nilFunc w := by intros; kernel_rfl
@[simp] theorem zeroValue135 : ∀ (w : Go.World), Go.Sem.run prog (Go.zeroValue 135) w = Go.Result.ok (Go.Value.pointer Option.none) w := by intros; kernel_rfl
@[simp] theorem zeroValue136 : ∀ (w : Go.World), Go.Sem.run prog (Go.zeroValue 136) w = Go.Result.ok (Go.Value.int Go.IntKind.i64 0) w := by intros; kernel_rfl
@[simp] theorem zeroValue137 : ∀ (w : Go.World), Go.Sem.run prog (Go.zeroValue 137) w = Go.Result.ok Go.Value.nilFunc w := by intros; kernel_rfl
@[simp] theorem zeroValue138 : ∀ (w : Go.World), Go.Sem.run prog (Go.zeroValue 138) w = Go.Result.ok Go.Value.nilFunc w := by intros; kernel_rfl
@[simp] theorem zeroValue139 : ∀ (w : Go.World), Go.Sem.run prog (Go.zeroValue 139) w = Go.Result.ok Go.Value.nilFunc w := by intros; kernel_rfl
@[simp] theorem zeroValue140 : ∀ (w : Go.World), Go.Sem.run prog (Go.zeroValue 140) w = Go.Result.ok (Go.Value.int Go.IntKind.u64 0) w := by intros; kernel_rfl
@[simp] theorem zeroValue141 : ∀ (w : Go.World), Go.Sem.run prog (Go.zeroValue 141) w = Go.Result.ok (Go.Value.pointer Option.none) w := by intros; kernel_rfl
@[simp] theorem zeroValue142 : ∀ (w : Go.World), Go.Sem.run prog (Go.zeroValue 142) w = Go.Result.ok Go.Value.nilFunc w := by intros; kernel_rfl
@[simp] theorem zeroValue143 : ∀ (w : Go.World), Go.Sem.run prog (Go.zeroValue 143) w = Go.Result.ok Go.Value.nilFunc w := by intros; kernel_rfl
@[simp] theorem zeroValue144 : ∀ (w : Go.World), Go.Sem.run prog (Go.zeroValue 144) w = Go.Result.ok Go.Value.nilFunc w := by intros; kernel_rfl
@[simp] theorem zeroValue145 : ∀ (w : Go.World), Go.Sem.run prog (Go.zeroValue 145) w = Go.Result.ok Go.Value.nilFunc w := by intros; kernel_rfl
@[simp] theorem zeroValue146 : ∀ (w : Go.World), Go.Sem.run prog (Go.zeroValue 146) w = Go.Result.ok Go.Value.nilFunc w := by intros; kernel_rfl
@[simp] theorem zeroValue147 : ∀ (w : Go.World), Go.Sem.run prog (Go.zeroValue 147) w = Go.Result.ok Go.Value.nilFunc w := by intros; kernel_rfl
@[simp] theorem zeroValue148 : ∀ (w : Go.World), Go.Sem.run prog (Go.zeroValue 148) w = Go.Result.ok Go.Value.nilFunc w := by intros; kernel_rfl
@[simp] theorem zeroValue149 : ∀ (w : Go.World), Go.Sem.run prog (Go.zeroValue 149) w = Go.Result.ok Go.Value.nilFunc w := by intros; kernel_rfl
@[simp] theorem zeroValue150 : ∀ (w : Go.World), Go.Sem.run prog (Go.zeroValue 150) w = Go.Result.ok (Go.Value.tuple #[Go.Value.agg #[Go.Value.int Go.IntKind.i64 0, Go.Value.int Go.IntKind.i64 0], Go.Value.bool false]) w := by intros; kernel_rfl
@[simp] theorem zeroValue151 : ∀ (w : Go.World), Go.Sem.run prog (Go.zeroValue 151) w = Go.Result.ok Go.Value.nilFunc w := by intros; kernel_rfl
@[simp] theorem zeroValue152 : ∀ (w : Go.World), Go.Sem.run prog (Go.zeroValue 152) w = Go.Result.ok Go.Value.nilFunc w := by intros; kernel_rfl
@[simp] theorem zeroValue153 : ∀ (w : Go.World), Go.Sem.run prog (Go.zeroValue 153) w = Go.Result.ok (Go.Value.pointer Option.none) w := by intros; kernel_rfl
@[simp] theorem zeroValue154 : ∀ (w : Go.World), Go.Sem.run prog (Go.zeroValue 154) w = Go.Result.ok Go.Value.nilFunc w := by intros; kernel_rfl
@[simp] theorem zeroValue155 : ∀ (w : Go.World), Go.Sem.run prog (Go.zeroValue 155) w = Go.Result.ok (Go.Value.pointer Option.none) w := by intros; kernel_rfl
@[simp] theorem zeroValue156 : ∀ (w : Go.World), Go.Sem.run prog (Go.zeroValue 156) w = Go.Result.ok Go.Value.nilFunc w := by intros; kernel_rfl
@[simp] theorem zeroValue157 : ∀ (w : Go.World), Go.Sem.run prog (Go.zeroValue 157) w = Go.Result.ok Go.Value.nilFunc w := by intros; kernel_rfl
@[simp] theorem zeroValue158 : ∀ (w : Go.World), Go.Sem.run prog (Go.zeroValue 158) w = Go.Result.ok Go.Value.nilFunc w := by intros; kernel_rfl
@[simp] theorem zeroValue159 : ∀ (w : Go.World), Go.Sem.run prog (Go.zeroValue 159) w = Go.Result.ok Go.Value.nilFunc w := by intros; kernel_rfl
@[simp] theorem zeroValue160 : ∀ (w : Go.World), Go.Sem.run prog (Go.zeroValue 160) w = Go.Result.ok Go.Value.nilFunc w := by intros; kernel_rfl
@[simp] theorem zeroValue161 : ∀ (w : Go.World), Go.Sem.run prog (Go.zeroValue 161) w = Go.Result.ok Go.Value.nilFunc w := by intros; kernel_rfl
@[simp] theorem zeroValue162 : ∀ (w : Go.World), Go.Sem.run prog (Go.zeroValue 162) w = Go.Result.ok (Go.Value.agg #[Go.Value.pointer Option.none, Go.Value.pointer Option.none, Go.Value.pointer Option.none, Go.Value.string { data := #[] }]) w := by intros; kernel_rfl
@[simp] theorem zeroValue163 : ∀ (w : Go.World), Go.Sem.run prog (Go.zeroValue 163) w = Go.Result.ok (Go.Value.agg #[Go.Value.pointer Option.none, Go.Value.pointer Option.none, Go.Value.pointer Option.none, Go.Value.string { data := #[] }]) w := by intros; kernel_rfl
@[simp] theorem zeroValue164 : ∀ (w : Go.World), Go.Sem.run prog (Go.zeroValue 164) w = Go.Result.ok (Go.Value.agg #[]) w := by intros; kernel_rfl
@[simp] theorem zeroValue165 : ∀ (w : Go.World), Go.Sem.run prog (Go.zeroValue 165) w = Go.Result.ok (Go.Value.agg #[]) w := by intros; kernel_rfl
@[simp] theorem zeroValue166 : ∀ (w : Go.World), Go.Sem.run prog (Go.zeroValue 166) w = Go.Result.ok (Go.Value.agg #[]) w := by intros; kernel_rfl
@[simp] theorem zeroValue167 : ∀ (w : Go.World), Go.Sem.run prog (Go.zeroValue 167) w = Go.Result.ok Go.Value.nilFunc w := by intros; kernel_rfl
@[simp] theorem zeroValue168 : ∀ (w : Go.World), Go.Sem.run prog (Go.zeroValue 168) w = Go.Result.ok (Go.Value.int Go.IntKind.u8 0) w := by intros; kernel_rfl
@[simp] theorem zeroValue169 : ∀ (w : Go.World), Go.Sem.run prog (Go.zeroValue 169) w = Go.Result.ok (Go.Value.int Go.IntKind.u8 0) w := by intros; kernel_rfl
@[simp] theorem zeroValue170 : ∀ (w : Go.World), Go.Sem.run prog (Go.zeroValue 170) w = Go.Result.ok Go.Value.nilFunc w := by intros; kernel_rfl
@[simp] theorem zeroValue171 : ∀ (w : Go.World), Go.Sem.run prog (Go.zeroValue 171) w = Go.Result.ok (Go.Value.pointer Option.none) w := by intros; kernel_rfl
@[simp] theorem zeroValue172 : ∀ (w : Go.World), Go.Sem.run prog (Go.zeroValue 172) w = Go.Result.ok (Go.Value.int Go.IntKind.i32 0) w := by intros; kernel_rfl
@[simp] theorem zeroValue173 : ∀ (w : Go.World), Go.Sem.run prog (Go.zeroValue 173) w = Go.Result.ok (Go.Value.int Go.IntKind.i32 0) w := by intros; kernel_rfl
@[simp] theorem zeroValue174 : ∀ (w : Go.World), Go.Sem.run prog (Go.zeroValue 174) w = Go.Result.ok (Go.Value.agg #[Go.Value.int Go.IntKind.u64 0, Go.Value.int Go.IntKind.u64 0, Go.Value.int Go.IntKind.u32 0, Go.Value.int Go.IntKind.u8 0, Go.Value.int Go.IntKind.u8 0, Go.Value.int Go.IntKind.u8 0, Go.Value.int Go.IntKind.u8 0, Go.Value.nilFunc, Go.Value.pointer Option.none, Go.Value.int Go.IntKind.i32 0, Go.Value.int Go.IntKind.i32 0]) w := by intros; kernel_rfl
@[simp] theorem zeroValue175 : ∀ (w : Go.World), Go.Sem.run prog (Go.zeroValue 175) w = Go.Result.ok (Go.Value.agg #[Go.Value.int Go.IntKind.u64 0, Go.Value.int Go.IntKind.u64 0, Go.Value.int Go.IntKind.u32 0, Go.Value.int Go.IntKind.u8 0, Go.Value.int Go.IntKind.u8 0, Go.Value.int Go.IntKind.u8 0, Go.Value.int Go.IntKind.u8 0, Go.Value.nilFunc, Go.Value.pointer Option.none, Go.Value.int Go.IntKind.i32 0, Go.Value.int Go.IntKind.i32 0]) w := by intros; kernel_rfl
@[simp] theorem zeroValue176 : ∀ (w : Go.World), Go.Sem.run prog (Go.zeroValue 176) w = Go.Result.ok Go.Value.nilFunc w := by intros; kernel_rfl
@[simp] theorem zeroValue177 : ∀ (w : Go.World), Go.Sem.run prog (Go.zeroValue 177) w = Go.Result.ok Go.Value.nilIface w := by intros; kernel_rfl
@[simp] theorem zeroValue178 : ∀ (w : Go.World), Go.Sem.run prog (Go.zeroValue 178) w = Go.Result.ok Go.Value.nilIface w := by intros; kernel_rfl
end Go.Proofs.Ytjklkppncmhehaa.Tw
