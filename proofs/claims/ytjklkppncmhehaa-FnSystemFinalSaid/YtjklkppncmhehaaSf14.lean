/-
What is proved: the facts of the tables and of the functions at a second program: impl.entriesOf's body is another there: it escapes, or asks one group after the other. No condition.
-/
import Derived.Test.YtjklkppncmhehaaProg
import Derived.KernelRfl
set_option linter.unusedVariables false
set_option linter.unusedSimpArgs false
namespace Go.Proofs.Ytjklkppncmhehaa.Tw
open Go
noncomputable def fAsk : Func := { name := "twin.ask", origin := "", params := #[24, 52, 3], resultTypes := #[87], nfree := 0, ntmps := 7, results := #[.tmp 6], norace := false, tmpNames := #[], body := some (.seq (.region 0 #[{ dst := some 3, op := .move (.const (.bool true)), type := 0, pos := "", after := #[], guard := none }, { dst := some 3, op := .move (.const (.bool false)), type := 0, pos := "", after := #[], guard := none }] true)
  (.seq (.cond (.tmp 3) (.region 1 #[{ dst := some 4, op := .makeFunc (.func 51) #[.tmp 0, .tmp 1, .tmp 2] #[], type := 0, pos := "", after := #[], guard := none },
      { dst := some 5, op := .makeInterface 110 (.tmp 4), type := 0, pos := "", after := #[], guard := none }, { dst := none, op := .panic (.tmp 5), type := 0, pos := "", after := #[], guard := none }] false) .skip)
  (.seq (.region 2 #[{ dst := some 6, op := .call { callee := .value (.func 138), args := #[.tmp 0, .tmp 1, .tmp 2], argTypes := #[24, 52, 3] }, type := 0, pos := "", after := #[], guard := none }] false) .ret))) }
noncomputable def fSeq : Func := { name := "twin.seq", origin := "", params := #[24, 52, 3], resultTypes := #[87], nfree := 0, ntmps := 14, results := #[.tmp 7], norace := false, tmpNames := #[], body := some (.seq (.region 0 #[{ dst := some 3, op := .box 24 (.tmp 0), type := 0, pos := "", after := #[], guard := none }, { dst := some 4, op := .box 3 (.tmp 2), type := 0, pos := "", after := #[], guard := none },
      { dst := some 5, op := .makeFunc (.func 70) #[] #[.tmp 3, .tmp 4], type := 110, pos := "", after := #[], guard := none },
      { dst := some 6, op := .call { callee := .builtin .len, args := #[.tmp 1], argTypes := #[52] }, type := 3, pos := "", after := #[], guard := none },
      { dst := some 7, op := .makeSlice 87 (.tmp 6) (.tmp 6), type := 87, pos := "", after := #[], guard := none },
      { dst := some 8, op := .move (.const (.int .i64 0)), type := 3, pos := "", after := #[], guard := none }] false)
  (.seq (.block 0 (.loop (.seq (.region 1 #[{ dst := some 9, op := .binOp .lss 3 (.tmp 8) (.tmp 6) 3, type := 0, pos := "", after := #[], guard := none }] false)
    (.seq (.cond (.tmp 9) .skip (.exit 0))
    (.seq (.region 2 #[{ dst := some 10, op := .indexAddr 52 (.tmp 1) (.tmp 8), type := 0, pos := "", after := #[], guard := none }, { dst := some 11, op := .load 3 (.tmp 10), type := 3, pos := "", after := #[], guard := none },
      { dst := some 12, op := .call { callee := .value (.tmp 5), args := #[.tmp 11], argTypes := #[3] }, type := 91, pos := "", after := #[], guard := none }] false)
    (.region 3 #[{ dst := some 13, op := .indexAddr 87 (.tmp 7) (.tmp 8), type := 0, pos := "", after := #[], guard := none }, { dst := none, op := .store 91 (.tmp 13) (.tmp 12), type := 0, pos := "", after := #[], guard := none },
      { dst := some 8, op := .binOp .add 3 (.tmp 8) (.const (.int .i64 1)) 3, type := 3, pos := "", after := #[], guard := none }] false))))))
  .ret)) }
noncomputable def funcs : Array Func := (Try.funcs.setIfInBounds 51 fAsk).push fSeq
noncomputable def prog : Program := { toTables := Try.progTables, funcs := funcs }
abbrev seqId : FuncId := 138
theorem funcAsk : prog.funcs[51]? = some fAsk := by kernel_rfl
theorem funcSeq : prog.funcs[138]? = some fSeq := by kernel_rfl
@[simp] theorem callSeq : ∀ (args : Array Go.Value) (w : Go.World), Go.Sem.run prog (Go.callFunc 138 args) w = Go.Result.ok (Go.Next.enter 138 args) w := by intros; kernel_rfl
theorem ntmpsAsk : fAsk.ntmps = 7 := rfl
theorem ntmpsSeq : fSeq.ntmps = 14 := rfl
def goodList : List Nat := [3, 4, 5, 6, 7, 8, 9, 10, 11, 12, 13, 14, 15, 16, 17, 18, 19, 20, 21, 22, 23, 24, 25, 26, 27, 28, 29, 30, 31, 32, 33, 34, 35, 36, 37, 38, 39, 40, 41, 42, 43, 44, 45, 46, 47, 48, 49, 50, 51, 52, 53, 54, 55, 56, 57, 58, 59, 60, 61, 62, 63, 64, 65, 66, 67, 68, 70, 71, 72, 73, 74, 75, 76, 77, 78, 79, 80, 85, 86, 87, 88, 89, 90, 91, 110, 111, 112, 113, 119, 120]
@[simp] theorem call3 : ∀ (args : Array Go.Value) (w : Go.World), Go.Sem.run prog (Go.callFunc 3 args) w = Go.Result.ok (Go.Next.enter 3 args) w := by intros; kernel_rfl
@[simp] theorem call4 : ∀ (args : Array Go.Value) (w : Go.World), Go.Sem.run prog (Go.callFunc 4 args) w = Go.Result.ok (Go.Next.enter 4 args) w := by intros; kernel_rfl
@[simp] theorem call24 : ∀ (args : Array Go.Value) (w : Go.World), Go.Sem.run prog (Go.callFunc 24 args) w = Go.Result.ok (Go.Next.enter 24 args) w := by intros; kernel_rfl
@[simp] theorem call52 : ∀ (args : Array Go.Value) (w : Go.World), Go.Sem.run prog (Go.callFunc 52 args) w = Go.Result.ok (Go.Next.enter 52 args) w := by intros; kernel_rfl
@[simp] theorem call87 : ∀ (args : Array Go.Value) (w : Go.World), Go.Sem.run prog (Go.callFunc 87 args) w = Go.Result.ok (Go.Next.enter 87 args) w := by intros; kernel_rfl
@[simp] theorem call91 : ∀ (args : Array Go.Value) (w : Go.World), Go.Sem.run prog (Go.callFunc 91 args) w = Go.Result.ok (Go.Next.enter 91 args) w := by intros; kernel_rfl
@[simp] theorem call110 : ∀ (args : Array Go.Value) (w : Go.World), Go.Sem.run prog (Go.callFunc 110 args) w = Go.Result.ok (Go.Next.enter 110 args) w := by intros; kernel_rfl
@[simp] theorem eqGuardType91 : prog.eqGuardType prog.depth 91 = false := by kernel_rfl
theorem func4 : prog.funcs[4]? = Option.some Try.f4 := by kernel_rfl
theorem func7 : prog.funcs[7]? = Option.some Try.f7 := by kernel_rfl
theorem func9 : prog.funcs[9]? = Option.some Try.f9 := by kernel_rfl
theorem func10 : prog.funcs[10]? = Option.some Try.f10 := by kernel_rfl
theorem func11 : prog.funcs[11]? = Option.some Try.f11 := by kernel_rfl
theorem func12 : prog.funcs[12]? = Option.some Try.f12 := by kernel_rfl
theorem func13 : prog.funcs[13]? = Option.some Try.f13 := by kernel_rfl
theorem func19 : prog.funcs[19]? = Option.some Try.f19 := by kernel_rfl
theorem func23 : prog.funcs[23]? = Option.some Try.f23 := by kernel_rfl
theorem func24 : prog.funcs[24]? = Option.some Try.f24 := by kernel_rfl
theorem func25 : prog.funcs[25]? = Option.some Try.f25 := by kernel_rfl
theorem func26 : prog.funcs[26]? = Option.some Try.f26 := by kernel_rfl
theorem func27 : prog.funcs[27]? = Option.some Try.f27 := by kernel_rfl
theorem func28 : prog.funcs[28]? = Option.some Try.f28 := by kernel_rfl
theorem func29 : prog.funcs[29]? = Option.some Try.f29 := by kernel_rfl
theorem func30 : prog.funcs[30]? = Option.some Try.f30 := by kernel_rfl
theorem func31 : prog.funcs[31]? = Option.some Try.f31 := by kernel_rfl
theorem func32 : prog.funcs[32]? = Option.some Try.f32 := by kernel_rfl
theorem func33 : prog.funcs[33]? = Option.some Try.f33 := by kernel_rfl
theorem func37 : prog.funcs[37]? = Option.some Try.f37 := by kernel_rfl
theorem func42 : prog.funcs[42]? = Option.some Try.f42 := by kernel_rfl
theorem func45 : prog.funcs[45]? = Option.some Try.f45 := by kernel_rfl
theorem func46 : prog.funcs[46]? = Option.some Try.f46 := by kernel_rfl
theorem func47 : prog.funcs[47]? = Option.some Try.f47 := by kernel_rfl
theorem func48 : prog.funcs[48]? = Option.some Try.f48 := by kernel_rfl
theorem func49 : prog.funcs[49]? = Option.some Try.f49 := by kernel_rfl
theorem func50 : prog.funcs[50]? = Option.some Try.f50 := by kernel_rfl
theorem func52 : prog.funcs[52]? = Option.some Try.f52 := by kernel_rfl
theorem func53 : prog.funcs[53]? = Option.some Try.f53 := by kernel_rfl
theorem func54 : prog.funcs[54]? = Option.some Try.f54 := by kernel_rfl
theorem func55 : prog.funcs[55]? = Option.some Try.f55 := by kernel_rfl
theorem func59 : prog.funcs[59]? = Option.some Try.f59 := by kernel_rfl
theorem func60 : prog.funcs[60]? = Option.some Try.f60 := by kernel_rfl
theorem func62 : prog.funcs[62]? = Option.some Try.f62 := by kernel_rfl
theorem func63 : prog.funcs[63]? = Option.some Try.f63 := by kernel_rfl
theorem func64 : prog.funcs[64]? = Option.some Try.f64 := by kernel_rfl
theorem func65 : prog.funcs[65]? = Option.some Try.f65 := by kernel_rfl
theorem func66 : prog.funcs[66]? = Option.some Try.f66 := by kernel_rfl
theorem func67 : prog.funcs[67]? = Option.some Try.f67 := by kernel_rfl
theorem func68 : prog.funcs[68]? = Option.some Try.f68 := by kernel_rfl
theorem func70 : prog.funcs[70]? = Option.some Try.f70 := by kernel_rfl
theorem func71 : prog.funcs[71]? = Option.some Try.f71 := by kernel_rfl
theorem func72 : prog.funcs[72]? = Option.some Try.f72 := by kernel_rfl
theorem func75 : prog.funcs[75]? = Option.some Try.f75 := by kernel_rfl
theorem func76 : prog.funcs[76]? = Option.some Try.f76 := by kernel_rfl
theorem func77 : prog.funcs[77]? = Option.some Try.f77 := by kernel_rfl
theorem func78 : prog.funcs[78]? = Option.some Try.f78 := by kernel_rfl
theorem func79 : prog.funcs[79]? = Option.some Try.f79 := by kernel_rfl
theorem func80 : prog.funcs[80]? = Option.some Try.f80 := by kernel_rfl
theorem func85 : prog.funcs[85]? = Option.some Try.f85 := by kernel_rfl
theorem func86 : prog.funcs[86]? = Option.some Try.f86 := by kernel_rfl
theorem func87 : prog.funcs[87]? = Option.some Try.f87 := by kernel_rfl
theorem func88 : prog.funcs[88]? = Option.some Try.f88 := by kernel_rfl
theorem func89 : prog.funcs[89]? = Option.some Try.f89 := by kernel_rfl
theorem func90 : prog.funcs[90]? = Option.some Try.f90 := by kernel_rfl
theorem func91 : prog.funcs[91]? = Option.some Try.f91 := by kernel_rfl
theorem func110 : prog.funcs[110]? = Option.some Try.f110 := by kernel_rfl
theorem func111 : prog.funcs[111]? = Option.some Try.f111 := by kernel_rfl
theorem func112 : prog.funcs[112]? = Option.some Try.f112 := by kernel_rfl
theorem func113 : prog.funcs[113]? = Option.some Try.f113 := by kernel_rfl
theorem func119 : prog.funcs[119]? = Option.some Try.f119 := by kernel_rfl
theorem func120 : prog.funcs[120]? = Option.some Try.f120 := by kernel_rfl
@[simp] theorem globals_size : prog.globals.size = 0 := by kernel_rfl
@[simp] theorem isAgg0 : ∀ (w : Go.World), Go.Sem.run prog (Go.isAgg 0) w = Go.Result.ok false w := by intros; kernel_rfl
@[simp] theorem isAgg3 : ∀ (w : Go.World), Go.Sem.run prog (Go.isAgg 3) w = Go.Result.ok false w := by intros; kernel_rfl
@[simp] theorem isAgg4 : ∀ (w : Go.World), Go.Sem.run prog (Go.isAgg 4) w = Go.Result.ok false w := by intros; kernel_rfl
@[simp] theorem isAgg24 : ∀ (w : Go.World), Go.Sem.run prog (Go.isAgg 24) w = Go.Result.ok false w := by intros; kernel_rfl
@[simp] theorem isAgg52 : ∀ (w : Go.World), Go.Sem.run prog (Go.isAgg 52) w = Go.Result.ok false w := by intros; kernel_rfl
@[simp] theorem isAgg87 : ∀ (w : Go.World), Go.Sem.run prog (Go.isAgg 87) w = Go.Result.ok false w := by intros; kernel_rfl
@[simp] theorem isAgg91 : ∀ (w : Go.World), Go.Sem.run prog (Go.isAgg 91) w = Go.Result.ok true w := by intros; kernel_rfl
@[simp] theorem isAgg110 : ∀ (w : Go.World), Go.Sem.run prog (Go.isAgg 110) w = Go.Result.ok false w := by intros; kernel_rfl
theorem ntmps4 : Try.f4.ntmps = 92 := Try.ntmps4
theorem ntmps7 : Try.f7.ntmps = 26 := Try.ntmps7
theorem ntmps9 : Try.f9.ntmps = 12 := Try.ntmps9
theorem ntmps10 : Try.f10.ntmps = 34 := Try.ntmps10
theorem ntmps11 : Try.f11.ntmps = 103 := Try.ntmps11
theorem ntmps12 : Try.f12.ntmps = 32 := Try.ntmps12
theorem ntmps13 : Try.f13.ntmps = 16 := Try.ntmps13
theorem ntmps19 : Try.f19.ntmps = 12 := Try.ntmps19
theorem ntmps23 : Try.f23.ntmps = 59 := Try.ntmps23
theorem ntmps24 : Try.f24.ntmps = 11 := Try.ntmps24
theorem ntmps25 : Try.f25.ntmps = 94 := Try.ntmps25
theorem ntmps26 : Try.f26.ntmps = 62 := Try.ntmps26
theorem ntmps27 : Try.f27.ntmps = 87 := Try.ntmps27
theorem ntmps28 : Try.f28.ntmps = 30 := Try.ntmps28
theorem ntmps29 : Try.f29.ntmps = 24 := Try.ntmps29
theorem ntmps30 : Try.f30.ntmps = 20 := Try.ntmps30
theorem ntmps31 : Try.f31.ntmps = 16 := Try.ntmps31
theorem ntmps32 : Try.f32.ntmps = 24 := Try.ntmps32
theorem ntmps33 : Try.f33.ntmps = 9 := Try.ntmps33
theorem ntmps37 : Try.f37.ntmps = 5 := Try.ntmps37
theorem ntmps42 : Try.f42.ntmps = 8 := Try.ntmps42
theorem ntmps45 : Try.f45.ntmps = 22 := Try.ntmps45
theorem ntmps46 : Try.f46.ntmps = 21 := Try.ntmps46
theorem ntmps47 : Try.f47.ntmps = 99 := Try.ntmps47
theorem ntmps48 : Try.f48.ntmps = 123 := Try.ntmps48
theorem ntmps49 : Try.f49.ntmps = 9 := Try.ntmps49
theorem ntmps50 : Try.f50.ntmps = 60 := Try.ntmps50
theorem ntmps52 : Try.f52.ntmps = 2 := Try.ntmps52
theorem ntmps53 : Try.f53.ntmps = 15 := Try.ntmps53
theorem ntmps54 : Try.f54.ntmps = 71 := Try.ntmps54
theorem ntmps55 : Try.f55.ntmps = 20 := Try.ntmps55
theorem ntmps59 : Try.f59.ntmps = 9 := Try.ntmps59
theorem ntmps60 : Try.f60.ntmps = 18 := Try.ntmps60
theorem ntmps62 : Try.f62.ntmps = 51 := Try.ntmps62
theorem ntmps63 : Try.f63.ntmps = 23 := Try.ntmps63
theorem ntmps64 : Try.f64.ntmps = 84 := Try.ntmps64
theorem ntmps65 : Try.f65.ntmps = 14 := Try.ntmps65
theorem ntmps66 : Try.f66.ntmps = 69 := Try.ntmps66
theorem ntmps67 : Try.f67.ntmps = 141 := Try.ntmps67
theorem ntmps68 : Try.f68.ntmps = 27 := Try.ntmps68
theorem ntmps70 : Try.f70.ntmps = 19 := Try.ntmps70
theorem ntmps71 : Try.f71.ntmps = 5 := Try.ntmps71
theorem ntmps72 : Try.f72.ntmps = 11 := Try.ntmps72
theorem ntmps75 : Try.f75.ntmps = 50 := Try.ntmps75
theorem ntmps76 : Try.f76.ntmps = 20 := Try.ntmps76
theorem ntmps77 : Try.f77.ntmps = 21 := Try.ntmps77
theorem ntmps78 : Try.f78.ntmps = 23 := Try.ntmps78
theorem ntmps79 : Try.f79.ntmps = 49 := Try.ntmps79
theorem ntmps80 : Try.f80.ntmps = 70 := Try.ntmps80
theorem ntmps85 : Try.f85.ntmps = 14 := Try.ntmps85
theorem ntmps86 : Try.f86.ntmps = 35 := Try.ntmps86
theorem ntmps87 : Try.f87.ntmps = 18 := Try.ntmps87
theorem ntmps88 : Try.f88.ntmps = 103 := Try.ntmps88
theorem ntmps89 : Try.f89.ntmps = 44 := Try.ntmps89
theorem ntmps90 : Try.f90.ntmps = 52 := Try.ntmps90
theorem ntmps91 : Try.f91.ntmps = 115 := Try.ntmps91
theorem ntmps110 : Try.f110.ntmps = 69 := Try.ntmps110
theorem ntmps111 : Try.f111.ntmps = 15 := Try.ntmps111
theorem ntmps112 : Try.f112.ntmps = 58 := Try.ntmps112
theorem ntmps113 : Try.f113.ntmps = 52 := Try.ntmps113
theorem ntmps119 : Try.f119.ntmps = 18 := Try.ntmps119
theorem ntmps120 : Try.f120.ntmps = 25 := Try.ntmps120
@[simp] theorem rt_eq : prog.rt = { boundsError := 8, errorString := 10, plainError := 11, errorAddressString := 14, typeAssertionError := 15, panicNilError := 16, unhashableTypeError := 19, string := 9, any := 20, int := 3, bool := 4, rune := 21, byte := 5 } := by kernel_rfl
@[simp] theorem runUnderlying0 : ∀ (w : Go.World), Go.Sem.run prog (Go.underlying 0) w = Go.Result.ok (Go.TypeDesc.tuple #[]) w := by intros; kernel_rfl
@[simp] theorem runUnderlying3 : ∀ (w : Go.World), Go.Sem.run prog (Go.underlying 3) w = Go.Result.ok (Go.TypeDesc.int Go.IntKind.i64) w := by intros; kernel_rfl
@[simp] theorem runUnderlying4 : ∀ (w : Go.World), Go.Sem.run prog (Go.underlying 4) w = Go.Result.ok Go.TypeDesc.bool w := by intros; kernel_rfl
@[simp] theorem runUnderlying24 : ∀ (w : Go.World), Go.Sem.run prog (Go.underlying 24) w = Go.Result.ok (Go.TypeDesc.slice 44) w := by intros; kernel_rfl
@[simp] theorem runUnderlying52 : ∀ (w : Go.World), Go.Sem.run prog (Go.underlying 52) w = Go.Result.ok (Go.TypeDesc.slice 3) w := by intros; kernel_rfl
@[simp] theorem runUnderlying87 : ∀ (w : Go.World), Go.Sem.run prog (Go.underlying 87) w = Go.Result.ok (Go.TypeDesc.slice 91) w := by intros; kernel_rfl
@[simp] theorem runUnderlying91 : ∀ (w : Go.World), Go.Sem.run prog (Go.underlying 91) w = Go.Result.ok (Go.TypeDesc.struct #[{ name := "entry", type := 39, offset := 0, embedded := false, tag := "", pkgPath := "loop.example/groupmulticast/impl", byteOffset := 0 }, { name := "known", type := 4, offset := 4, embedded := false, tag := "", pkgPath := "loop.example/groupmulticast/impl", byteOffset := 32 }]) w := by intros; kernel_rfl
@[simp] theorem runUnderlying110 : ∀ (w : Go.World), Go.Sem.run prog (Go.underlying 110) w = Go.Result.ok (Go.TypeDesc.func #[3] #[91] false) w := by intros; kernel_rfl
@[simp] theorem sizeOf0 : ∀ (w : Go.World), Go.Sem.run prog (Go.sizeOf 0) w = Go.Result.ok 1 w := by intros; kernel_rfl
@[simp] theorem sizeOf3 : ∀ (w : Go.World), Go.Sem.run prog (Go.sizeOf 3) w = Go.Result.ok 1 w := by intros; kernel_rfl
@[simp] theorem sizeOf4 : ∀ (w : Go.World), Go.Sem.run prog (Go.sizeOf 4) w = Go.Result.ok 1 w := by intros; kernel_rfl
@[simp] theorem sizeOf24 : ∀ (w : Go.World), Go.Sem.run prog (Go.sizeOf 24) w = Go.Result.ok 1 w := by intros; kernel_rfl
@[simp] theorem sizeOf52 : ∀ (w : Go.World), Go.Sem.run prog (Go.sizeOf 52) w = Go.Result.ok 1 w := by intros; kernel_rfl
@[simp] theorem sizeOf87 : ∀ (w : Go.World), Go.Sem.run prog (Go.sizeOf 87) w = Go.Result.ok 1 w := by intros; kernel_rfl
@[simp] theorem sizeOf91 : ∀ (w : Go.World), Go.Sem.run prog (Go.sizeOf 91) w = Go.Result.ok 5 w := by intros; kernel_rfl
@[simp] theorem sizeOf110 : ∀ (w : Go.World), Go.Sem.run prog (Go.sizeOf 110) w = Go.Result.ok 1 w := by intros; kernel_rfl
@[simp] theorem stoodInHeld91 : prog.stoodInHeld 91 = false := by kernel_rfl
@[simp] theorem type0 : prog.types[0]? = Option.some Try.t0 := by kernel_rfl
@[simp] theorem type3 : prog.types[3]? = Option.some Try.t3 := by kernel_rfl
@[simp] theorem type4 : prog.types[4]? = Option.some Try.t4 := by kernel_rfl
@[simp] theorem type24 : prog.types[24]? = Option.some Try.t24 := by kernel_rfl
@[simp] theorem type52 : prog.types[52]? = Option.some Try.t52 := by kernel_rfl
@[simp] theorem type87 : prog.types[87]? = Option.some Try.t87 := by kernel_rfl
@[simp] theorem type91 : prog.types[91]? = Option.some Try.t91 := by kernel_rfl
@[simp] theorem type110 : prog.types[110]? = Option.some Try.t110 := by kernel_rfl
@[simp] theorem typeInfo0 : ∀ (w : Go.World), Go.Sem.run prog (Go.typeInfo 0) w = Go.Result.ok Try.t0 w := by intros; kernel_rfl
@[simp] theorem typeInfo3 : ∀ (w : Go.World), Go.Sem.run prog (Go.typeInfo 3) w = Go.Result.ok Try.t3 w := by intros; kernel_rfl
@[simp] theorem typeInfo4 : ∀ (w : Go.World), Go.Sem.run prog (Go.typeInfo 4) w = Go.Result.ok Try.t4 w := by intros; kernel_rfl
@[simp] theorem typeInfo24 : ∀ (w : Go.World), Go.Sem.run prog (Go.typeInfo 24) w = Go.Result.ok Try.t24 w := by intros; kernel_rfl
@[simp] theorem typeInfo52 : ∀ (w : Go.World), Go.Sem.run prog (Go.typeInfo 52) w = Go.Result.ok Try.t52 w := by intros; kernel_rfl
@[simp] theorem typeInfo87 : ∀ (w : Go.World), Go.Sem.run prog (Go.typeInfo 87) w = Go.Result.ok Try.t87 w := by intros; kernel_rfl
@[simp] theorem typeInfo91 : ∀ (w : Go.World), Go.Sem.run prog (Go.typeInfo 91) w = Go.Result.ok Try.t91 w := by intros; kernel_rfl
@[simp] theorem typeInfo110 : ∀ (w : Go.World), Go.Sem.run prog (Go.typeInfo 110) w = Go.Result.ok Try.t110 w := by intros; kernel_rfl
@[simp] theorem types_size : prog.types.size = 179 := by kernel_rfl
@[simp] theorem underlying0 : prog.underlying 0 = Option.some (Go.TypeDesc.tuple #[]) := by kernel_rfl
@[simp] theorem underlying3 : prog.underlying 3 = Option.some (Go.TypeDesc.int Go.IntKind.i64) := by kernel_rfl
@[simp] theorem underlying4 : prog.underlying 4 = Option.some Go.TypeDesc.bool := by kernel_rfl
@[simp] theorem underlying5 : prog.underlying 5 = Option.some (Go.TypeDesc.int Go.IntKind.u8) := by kernel_rfl
@[simp] theorem underlying22 : prog.underlying 22 = Option.some (Go.TypeDesc.slice 5) := by kernel_rfl
@[simp] theorem underlying24 : prog.underlying 24 = Option.some (Go.TypeDesc.slice 44) := by kernel_rfl
@[simp] theorem underlying52 : prog.underlying 52 = Option.some (Go.TypeDesc.slice 3) := by kernel_rfl
@[simp] theorem underlying87 : prog.underlying 87 = Option.some (Go.TypeDesc.slice 91) := by kernel_rfl
@[simp] theorem underlying91 : prog.underlying 91 = Option.some (Go.TypeDesc.struct #[{ name := "entry", type := 39, offset := 0, embedded := false, tag := "", pkgPath := "loop.example/groupmulticast/impl", byteOffset := 0 }, { name := "known", type := 4, offset := 4, embedded := false, tag := "", pkgPath := "loop.example/groupmulticast/impl", byteOffset := 32 }]) := by kernel_rfl
@[simp] theorem underlying110 : prog.underlying 110 = Option.some (Go.TypeDesc.func #[3] #[91] false) := by kernel_rfl
@[simp] theorem zeroValue0 : ∀ (w : Go.World), Go.Sem.run prog (Go.zeroValue 0) w = Go.Result.ok (Go.Value.tuple #[]) w := by intros; kernel_rfl
@[simp] theorem zeroValue3 : ∀ (w : Go.World), Go.Sem.run prog (Go.zeroValue 3) w = Go.Result.ok (Go.Value.int Go.IntKind.i64 0) w := by intros; kernel_rfl
@[simp] theorem zeroValue4 : ∀ (w : Go.World), Go.Sem.run prog (Go.zeroValue 4) w = Go.Result.ok (Go.Value.bool false) w := by intros; kernel_rfl
@[simp] theorem zeroValue24 : ∀ (w : Go.World), Go.Sem.run prog (Go.zeroValue 24) w = Go.Result.ok (Go.Value.slice Option.none 0 0) w := by intros; kernel_rfl
@[simp] theorem zeroValue52 : ∀ (w : Go.World), Go.Sem.run prog (Go.zeroValue 52) w = Go.Result.ok (Go.Value.slice Option.none 0 0) w := by intros; kernel_rfl
@[simp] theorem zeroValue87 : ∀ (w : Go.World), Go.Sem.run prog (Go.zeroValue 87) w = Go.Result.ok (Go.Value.slice Option.none 0 0) w := by intros; kernel_rfl
@[simp] theorem zeroValue91 : ∀ (w : Go.World), Go.Sem.run prog (Go.zeroValue 91) w = Go.Result.ok (Go.Value.agg #[Go.Value.int Go.IntKind.i64 0, Go.Value.int Go.IntKind.i64 0, Go.Value.int Go.IntKind.i64 0, Go.Value.bool false, Go.Value.bool false]) w := by intros; kernel_rfl
@[simp] theorem zeroValue110 : ∀ (w : Go.World), Go.Sem.run prog (Go.zeroValue 110) w = Go.Result.ok Go.Value.nilFunc w := by intros; kernel_rfl
end Go.Proofs.Ytjklkppncmhehaa.Tw
