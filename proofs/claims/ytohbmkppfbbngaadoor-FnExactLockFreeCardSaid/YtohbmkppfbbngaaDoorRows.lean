/-
  NARROWER THAN 'FOR EVERY INPUT', by the rows' own cells (each row's printed sentence says how): FnLockFair: laid · FnExactLockAsk: laid · FnLockAsk: laid · FnExactLockFree: laid · FnLockAskRefused: laid · FnLockFree: laid · FnLockLeave: laid · FnLockBack: laid · FnLockFences: laid · FnLockValid: laid.
  DERIVED. THE GIVEN ROWS OF THIS SEAT. 10 by the template 'for every input the law returns true; each argument reads behind the call as it read before'; 0 by the template 'total and deterministic' (their statements: YtohbmkppfbbngaaDoorTotals.lean).
  GIVEN WITH THE SEED: the statements are not yours to turn. If you find one false, say at which input.
  Laid BY PROGRAM, IN A SANDBOX (cutbox-rows.mjs): the forced cells as the released guide's own fill.sh prints them over the translation 081066528d63d53a… (all of the seat's roots in one cut). By AI agents, Wed Nov 11 2026. No macro, syntax, notation, axiom, sorry.
-/
import Derived.Test.YtohbmkppfbbngaaDoorChecked
import GoSem.Claim
import GoSem.ClaimJoined
import GoSem.ClaimMapViews
import Derived.JoinedTies
import Derived.KernelRfl
namespace Go.Proofs.YtohbmkppfbbngaaDoor
/- THE CELL 'sum', in the pinned program and in every row, IS THE sha256 OF THE DUMP (.gsa) THAT YtohbmkppfbbngaaDoorProg.lean LOADS. Nothing in Lean hashes anything: it is a label: what it is worth is what the hold of that sum in a sandbox is worth. -/
noncomputable def Tryd.pinned : Pinned := { name := "ytohbmkppfbbngaadoor", sum := "081066528d63d53aee7a847733dc3b72839900b60a8b11f14cf9582bb60eb6da", checked := Tryd.checked }
namespace Rows
def none {H : Type} : Left H := { results := [], args := [] }

/- WHAT THE LISTED PACKAGE-LEVEL VARIABLES READ AS WHEN THE CALL BEGINS. Each datum BY PROGRAM (the guide's laid-datum.mjs) off the statement by which the dump's own 'gosem.cut.vars' lays the variable. In a bare row this is a premise. The card (YtohbmkppfbbngaaDoorCards.lean) ties it to the program's text. -/
def laid_errors_errorType {H : Type} : DataW H := .iface "internal/reflectlite.rtype" (.agg [.ptr (.lit (.string [101, 114, 114, 111, 114]))])

/-- 'laws.FnLockFair': WHATEVER THE INPUT: true; the input reads as it did. -/
def fnLockFairSpec : ChangeSpec := { name := "fnLockFair", fn := fun _ => fun
  | [d] => { results := [.lit (.bool true)], args := [d] }
  | _ => none }
def fnLockFairRow : OpenClaim := { program := "ytohbmkppfbbngaadoor", sum := "081066528d63d53aee7a847733dc3b72839900b60a8b11f14cf9582bb60eb6da", func := "loop.example/groupmulticast/laws.FnLockFair", spec := "fnLockFair", inPlace := ["internal/reflectlite.ValueOf", "(internal/reflectlite.Value).Type", "(internal/reflectlite.Value).IsNil", "internal/reflectlite.TypeOf", "(internal/reflectlite.Value).Elem", "(internal/reflectlite.Value).Set"], unfollowed := true, recurses := true, named := ["errors.errorType"], apart := false, laid := [("errors.errorType", laid_errors_errorType)] }
def FnLockFairSaid : Prop := fnLockFairRow.holds Tryd.pinned (OpenSpec.ofChange fnLockFairSpec)

/-- ITS FALSE NEIGHBOUR: 'it returns false'. Refute it at one input. -/
def fnLockFairWrong : ChangeSpec := { name := "fnLockFair", fn := fun _ => fun
  | [d] => { results := [.lit (.bool false)], args := [d] }
  | _ => none }
def FnLockFairWrongFalsely : Prop := fnLockFairRow.holds Tryd.pinned (OpenSpec.ofChange fnLockFairWrong)

/-- 'laws.FnExactLockAsk': WHATEVER THE INPUT: true; the input reads as it did. -/
def fnExactLockAskSpec : ChangeSpec := { name := "fnExactLockAsk", fn := fun _ => fun
  | [d1, d2] => { results := [.lit (.bool true)], args := [d1, d2] }
  | _ => none }
def fnExactLockAskRow : OpenClaim := { program := "ytohbmkppfbbngaadoor", sum := "081066528d63d53aee7a847733dc3b72839900b60a8b11f14cf9582bb60eb6da", func := "loop.example/groupmulticast/laws.FnExactLockAsk", spec := "fnExactLockAsk", inPlace := ["internal/reflectlite.ValueOf", "(internal/reflectlite.Value).Type", "(internal/reflectlite.Value).IsNil", "internal/reflectlite.TypeOf", "(internal/reflectlite.Value).Elem", "(internal/reflectlite.Value).Set"], unfollowed := true, recurses := true, named := ["errors.errorType"], apart := false, laid := [("errors.errorType", laid_errors_errorType)] }
def FnExactLockAskSaid : Prop := fnExactLockAskRow.holds Tryd.pinned (OpenSpec.ofChange fnExactLockAskSpec)

/-- ITS FALSE NEIGHBOUR: 'it returns false'. Refute it at one input. -/
def fnExactLockAskWrong : ChangeSpec := { name := "fnExactLockAsk", fn := fun _ => fun
  | [d1, d2] => { results := [.lit (.bool false)], args := [d1, d2] }
  | _ => none }
def FnExactLockAskWrongFalsely : Prop := fnExactLockAskRow.holds Tryd.pinned (OpenSpec.ofChange fnExactLockAskWrong)

/-- 'laws.FnLockAsk': WHATEVER THE INPUT: true; the input reads as it did. -/
def fnLockAskSpec : ChangeSpec := { name := "fnLockAsk", fn := fun _ => fun
  | [d] => { results := [.lit (.bool true)], args := [d] }
  | _ => none }
def fnLockAskRow : OpenClaim := { program := "ytohbmkppfbbngaadoor", sum := "081066528d63d53aee7a847733dc3b72839900b60a8b11f14cf9582bb60eb6da", func := "loop.example/groupmulticast/laws.FnLockAsk", spec := "fnLockAsk", inPlace := ["internal/reflectlite.ValueOf", "(internal/reflectlite.Value).Type", "(internal/reflectlite.Value).IsNil", "internal/reflectlite.TypeOf", "(internal/reflectlite.Value).Elem", "(internal/reflectlite.Value).Set"], unfollowed := true, recurses := true, named := ["errors.errorType"], apart := false, laid := [("errors.errorType", laid_errors_errorType)] }
def FnLockAskSaid : Prop := fnLockAskRow.holds Tryd.pinned (OpenSpec.ofChange fnLockAskSpec)

/-- ITS FALSE NEIGHBOUR: 'it returns false'. Refute it at one input. -/
def fnLockAskWrong : ChangeSpec := { name := "fnLockAsk", fn := fun _ => fun
  | [d] => { results := [.lit (.bool false)], args := [d] }
  | _ => none }
def FnLockAskWrongFalsely : Prop := fnLockAskRow.holds Tryd.pinned (OpenSpec.ofChange fnLockAskWrong)

/-- 'laws.FnExactLockFree': WHATEVER THE INPUT: true; the input reads as it did. -/
def fnExactLockFreeSpec : ChangeSpec := { name := "fnExactLockFree", fn := fun _ => fun
  | [d1, d2] => { results := [.lit (.bool true)], args := [d1, d2] }
  | _ => none }
def fnExactLockFreeRow : OpenClaim := { program := "ytohbmkppfbbngaadoor", sum := "081066528d63d53aee7a847733dc3b72839900b60a8b11f14cf9582bb60eb6da", func := "loop.example/groupmulticast/laws.FnExactLockFree", spec := "fnExactLockFree", inPlace := ["internal/reflectlite.ValueOf", "(internal/reflectlite.Value).Type", "(internal/reflectlite.Value).IsNil", "internal/reflectlite.TypeOf", "(internal/reflectlite.Value).Elem", "(internal/reflectlite.Value).Set"], unfollowed := true, recurses := true, named := ["errors.errorType"], apart := false, laid := [("errors.errorType", laid_errors_errorType)] }
def FnExactLockFreeSaid : Prop := fnExactLockFreeRow.holds Tryd.pinned (OpenSpec.ofChange fnExactLockFreeSpec)

/-- ITS FALSE NEIGHBOUR: 'it returns false'. Refute it at one input. -/
def fnExactLockFreeWrong : ChangeSpec := { name := "fnExactLockFree", fn := fun _ => fun
  | [d1, d2] => { results := [.lit (.bool false)], args := [d1, d2] }
  | _ => none }
def FnExactLockFreeWrongFalsely : Prop := fnExactLockFreeRow.holds Tryd.pinned (OpenSpec.ofChange fnExactLockFreeWrong)

/-- 'laws.FnLockAskRefused': WHATEVER THE INPUT: true; the input reads as it did. -/
def fnLockAskRefusedSpec : ChangeSpec := { name := "fnLockAskRefused", fn := fun _ => fun
  | [d] => { results := [.lit (.bool true)], args := [d] }
  | _ => none }
def fnLockAskRefusedRow : OpenClaim := { program := "ytohbmkppfbbngaadoor", sum := "081066528d63d53aee7a847733dc3b72839900b60a8b11f14cf9582bb60eb6da", func := "loop.example/groupmulticast/laws.FnLockAskRefused", spec := "fnLockAskRefused", inPlace := ["internal/reflectlite.ValueOf", "(internal/reflectlite.Value).Type", "(internal/reflectlite.Value).IsNil", "internal/reflectlite.TypeOf", "(internal/reflectlite.Value).Elem", "(internal/reflectlite.Value).Set"], unfollowed := true, recurses := true, named := ["errors.errorType"], apart := false, laid := [("errors.errorType", laid_errors_errorType)] }
def FnLockAskRefusedSaid : Prop := fnLockAskRefusedRow.holds Tryd.pinned (OpenSpec.ofChange fnLockAskRefusedSpec)

/-- ITS FALSE NEIGHBOUR: 'it returns false'. Refute it at one input. -/
def fnLockAskRefusedWrong : ChangeSpec := { name := "fnLockAskRefused", fn := fun _ => fun
  | [d] => { results := [.lit (.bool false)], args := [d] }
  | _ => none }
def FnLockAskRefusedWrongFalsely : Prop := fnLockAskRefusedRow.holds Tryd.pinned (OpenSpec.ofChange fnLockAskRefusedWrong)

/-- 'laws.FnLockFree': WHATEVER THE INPUT: true; the input reads as it did. -/
def fnLockFreeSpec : ChangeSpec := { name := "fnLockFree", fn := fun _ => fun
  | [d] => { results := [.lit (.bool true)], args := [d] }
  | _ => none }
def fnLockFreeRow : OpenClaim := { program := "ytohbmkppfbbngaadoor", sum := "081066528d63d53aee7a847733dc3b72839900b60a8b11f14cf9582bb60eb6da", func := "loop.example/groupmulticast/laws.FnLockFree", spec := "fnLockFree", inPlace := ["internal/reflectlite.ValueOf", "(internal/reflectlite.Value).Type", "(internal/reflectlite.Value).IsNil", "internal/reflectlite.TypeOf", "(internal/reflectlite.Value).Elem", "(internal/reflectlite.Value).Set"], unfollowed := true, recurses := true, named := ["errors.errorType"], apart := false, laid := [("errors.errorType", laid_errors_errorType)] }
def FnLockFreeSaid : Prop := fnLockFreeRow.holds Tryd.pinned (OpenSpec.ofChange fnLockFreeSpec)

/-- ITS FALSE NEIGHBOUR: 'it returns false'. Refute it at one input. -/
def fnLockFreeWrong : ChangeSpec := { name := "fnLockFree", fn := fun _ => fun
  | [d] => { results := [.lit (.bool false)], args := [d] }
  | _ => none }
def FnLockFreeWrongFalsely : Prop := fnLockFreeRow.holds Tryd.pinned (OpenSpec.ofChange fnLockFreeWrong)

/-- 'laws.FnLockLeave': WHATEVER THE INPUT: true; the input reads as it did. -/
def fnLockLeaveSpec : ChangeSpec := { name := "fnLockLeave", fn := fun _ => fun
  | [d] => { results := [.lit (.bool true)], args := [d] }
  | _ => none }
def fnLockLeaveRow : OpenClaim := { program := "ytohbmkppfbbngaadoor", sum := "081066528d63d53aee7a847733dc3b72839900b60a8b11f14cf9582bb60eb6da", func := "loop.example/groupmulticast/laws.FnLockLeave", spec := "fnLockLeave", inPlace := ["internal/reflectlite.ValueOf", "(internal/reflectlite.Value).Type", "(internal/reflectlite.Value).IsNil", "internal/reflectlite.TypeOf", "(internal/reflectlite.Value).Elem", "(internal/reflectlite.Value).Set"], unfollowed := true, recurses := true, named := ["errors.errorType"], apart := false, laid := [("errors.errorType", laid_errors_errorType)] }
def FnLockLeaveSaid : Prop := fnLockLeaveRow.holds Tryd.pinned (OpenSpec.ofChange fnLockLeaveSpec)

/-- ITS FALSE NEIGHBOUR: 'it returns false'. Refute it at one input. -/
def fnLockLeaveWrong : ChangeSpec := { name := "fnLockLeave", fn := fun _ => fun
  | [d] => { results := [.lit (.bool false)], args := [d] }
  | _ => none }
def FnLockLeaveWrongFalsely : Prop := fnLockLeaveRow.holds Tryd.pinned (OpenSpec.ofChange fnLockLeaveWrong)

/-- 'laws.FnLockBack': WHATEVER THE INPUT: true; the input reads as it did. -/
def fnLockBackSpec : ChangeSpec := { name := "fnLockBack", fn := fun _ => fun
  | [d] => { results := [.lit (.bool true)], args := [d] }
  | _ => none }
def fnLockBackRow : OpenClaim := { program := "ytohbmkppfbbngaadoor", sum := "081066528d63d53aee7a847733dc3b72839900b60a8b11f14cf9582bb60eb6da", func := "loop.example/groupmulticast/laws.FnLockBack", spec := "fnLockBack", inPlace := ["internal/reflectlite.ValueOf", "(internal/reflectlite.Value).Type", "(internal/reflectlite.Value).IsNil", "internal/reflectlite.TypeOf", "(internal/reflectlite.Value).Elem", "(internal/reflectlite.Value).Set"], unfollowed := true, recurses := true, named := ["errors.errorType"], apart := false, laid := [("errors.errorType", laid_errors_errorType)] }
def FnLockBackSaid : Prop := fnLockBackRow.holds Tryd.pinned (OpenSpec.ofChange fnLockBackSpec)

/-- ITS FALSE NEIGHBOUR: 'it returns false'. Refute it at one input. -/
def fnLockBackWrong : ChangeSpec := { name := "fnLockBack", fn := fun _ => fun
  | [d] => { results := [.lit (.bool false)], args := [d] }
  | _ => none }
def FnLockBackWrongFalsely : Prop := fnLockBackRow.holds Tryd.pinned (OpenSpec.ofChange fnLockBackWrong)

/-- 'laws.FnLockFences': WHATEVER THE INPUT: true; the input reads as it did. -/
def fnLockFencesSpec : ChangeSpec := { name := "fnLockFences", fn := fun _ => fun
  | [d] => { results := [.lit (.bool true)], args := [d] }
  | _ => none }
def fnLockFencesRow : OpenClaim := { program := "ytohbmkppfbbngaadoor", sum := "081066528d63d53aee7a847733dc3b72839900b60a8b11f14cf9582bb60eb6da", func := "loop.example/groupmulticast/laws.FnLockFences", spec := "fnLockFences", inPlace := ["internal/reflectlite.ValueOf", "(internal/reflectlite.Value).Type", "(internal/reflectlite.Value).IsNil", "internal/reflectlite.TypeOf", "(internal/reflectlite.Value).Elem", "(internal/reflectlite.Value).Set"], unfollowed := true, recurses := true, named := ["errors.errorType"], apart := false, laid := [("errors.errorType", laid_errors_errorType)] }
def FnLockFencesSaid : Prop := fnLockFencesRow.holds Tryd.pinned (OpenSpec.ofChange fnLockFencesSpec)

/-- ITS FALSE NEIGHBOUR: 'it returns false'. Refute it at one input. -/
def fnLockFencesWrong : ChangeSpec := { name := "fnLockFences", fn := fun _ => fun
  | [d] => { results := [.lit (.bool false)], args := [d] }
  | _ => none }
def FnLockFencesWrongFalsely : Prop := fnLockFencesRow.holds Tryd.pinned (OpenSpec.ofChange fnLockFencesWrong)

/-- 'laws.FnLockValid': WHATEVER THE INPUT: true; the input reads as it did. -/
def fnLockValidSpec : ChangeSpec := { name := "fnLockValid", fn := fun _ => fun
  | [d] => { results := [.lit (.bool true)], args := [d] }
  | _ => none }
def fnLockValidRow : OpenClaim := { program := "ytohbmkppfbbngaadoor", sum := "081066528d63d53aee7a847733dc3b72839900b60a8b11f14cf9582bb60eb6da", func := "loop.example/groupmulticast/laws.FnLockValid", spec := "fnLockValid", inPlace := ["internal/reflectlite.ValueOf", "(internal/reflectlite.Value).Type", "(internal/reflectlite.Value).IsNil", "internal/reflectlite.TypeOf", "(internal/reflectlite.Value).Elem", "(internal/reflectlite.Value).Set"], unfollowed := true, recurses := true, named := ["errors.errorType"], apart := false, laid := [("errors.errorType", laid_errors_errorType)] }
def FnLockValidSaid : Prop := fnLockValidRow.holds Tryd.pinned (OpenSpec.ofChange fnLockValidSpec)

/-- ITS FALSE NEIGHBOUR: 'it returns false'. Refute it at one input. -/
def fnLockValidWrong : ChangeSpec := { name := "fnLockValid", fn := fun _ => fun
  | [d] => { results := [.lit (.bool false)], args := [d] }
  | _ => none }
def FnLockValidWrongFalsely : Prop := fnLockValidRow.holds Tryd.pinned (OpenSpec.ofChange fnLockValidWrong)

/- THE SECOND FORM. 'bulk': how many values and letters a reading holds, each counted each time it is reached (what is shared counts as often as it is met; a slice's spare places count too). A statement '..UptoSaid' is the law's where the arguments, and the package variables that the reading takes, are together of bulk at most 1048576: NARROWER than '..Said'. Prove '..Said' where nothing that the law and all that it calls make is longer than what came in: it says more and counts as full. Else prove '..UptoSaid'. A law counts once. -/
mutual
def uptoBulk {H : Type} : DataW H → Nat
  | .lit (.string bytes) => bytes.length + 1
  | .lit _ => 1
  | .nil => 1
  | .ptr d => uptoBulk d + 1
  | .slice elems spare => uptoBulkAll elems + uptoBulkAll spare + 1
  | .agg parts => uptoBulkAll parts + 1
  | .iface _ d => uptoBulk d + 1
  | .map entries => uptoBulkEntries entries + 1
  | .held _ => 1
def uptoBulkAll {H : Type} : List (DataW H) → Nat
  | [] => 0
  | d :: r => uptoBulk d + uptoBulkAll r
def uptoBulkEntries {H : Type} : List (Lit × DataW H) → Nat
  | [] => 0
  | x :: r => uptoBulkEntry x + uptoBulkEntries r
def uptoBulkEntry {H : Type} : Lit × DataW H → Nat
  | (.string bytes, d) => bytes.length + uptoBulk d + 1
  | (_, d) => uptoBulk d + 1
 end
def uptoSmall : (H : Type) → List (DataW H) → Bool := fun _ ds => decide (uptoBulkAll ds ≤ 1048576)
def OpenSpec.upto (s : _root_.Go.ChangeSpec) : _root_.Go.OpenSpec := { _root_.Go.OpenSpec.ofChange s with cond := some uptoSmall }

/-- 'laws.FnLockFair', WHERE WHAT IT READS IS OF BULK AT MOST 1048576: true; the input reads as it did. -/
def fnLockFairUptoRow : OpenClaim := { program := "ytohbmkppfbbngaadoor", sum := "081066528d63d53aee7a847733dc3b72839900b60a8b11f14cf9582bb60eb6da", func := "loop.example/groupmulticast/laws.FnLockFair", spec := "fnLockFair", inPlace := ["internal/reflectlite.ValueOf", "(internal/reflectlite.Value).Type", "(internal/reflectlite.Value).IsNil", "internal/reflectlite.TypeOf", "(internal/reflectlite.Value).Elem", "(internal/reflectlite.Value).Set"], unfollowed := true, recurses := true, named := ["errors.errorType"], apart := false, laid := [("errors.errorType", laid_errors_errorType)], narrowed := true }
def FnLockFairUptoSaid : Prop := fnLockFairUptoRow.holds Tryd.pinned (OpenSpec.upto fnLockFairSpec)

/-- 'laws.FnExactLockAsk', WHERE WHAT IT READS IS OF BULK AT MOST 1048576: true; the input reads as it did. -/
def fnExactLockAskUptoRow : OpenClaim := { program := "ytohbmkppfbbngaadoor", sum := "081066528d63d53aee7a847733dc3b72839900b60a8b11f14cf9582bb60eb6da", func := "loop.example/groupmulticast/laws.FnExactLockAsk", spec := "fnExactLockAsk", inPlace := ["internal/reflectlite.ValueOf", "(internal/reflectlite.Value).Type", "(internal/reflectlite.Value).IsNil", "internal/reflectlite.TypeOf", "(internal/reflectlite.Value).Elem", "(internal/reflectlite.Value).Set"], unfollowed := true, recurses := true, named := ["errors.errorType"], apart := false, laid := [("errors.errorType", laid_errors_errorType)], narrowed := true }
def FnExactLockAskUptoSaid : Prop := fnExactLockAskUptoRow.holds Tryd.pinned (OpenSpec.upto fnExactLockAskSpec)

/-- 'laws.FnLockAsk', WHERE WHAT IT READS IS OF BULK AT MOST 1048576: true; the input reads as it did. -/
def fnLockAskUptoRow : OpenClaim := { program := "ytohbmkppfbbngaadoor", sum := "081066528d63d53aee7a847733dc3b72839900b60a8b11f14cf9582bb60eb6da", func := "loop.example/groupmulticast/laws.FnLockAsk", spec := "fnLockAsk", inPlace := ["internal/reflectlite.ValueOf", "(internal/reflectlite.Value).Type", "(internal/reflectlite.Value).IsNil", "internal/reflectlite.TypeOf", "(internal/reflectlite.Value).Elem", "(internal/reflectlite.Value).Set"], unfollowed := true, recurses := true, named := ["errors.errorType"], apart := false, laid := [("errors.errorType", laid_errors_errorType)], narrowed := true }
def FnLockAskUptoSaid : Prop := fnLockAskUptoRow.holds Tryd.pinned (OpenSpec.upto fnLockAskSpec)

/-- 'laws.FnExactLockFree', WHERE WHAT IT READS IS OF BULK AT MOST 1048576: true; the input reads as it did. -/
def fnExactLockFreeUptoRow : OpenClaim := { program := "ytohbmkppfbbngaadoor", sum := "081066528d63d53aee7a847733dc3b72839900b60a8b11f14cf9582bb60eb6da", func := "loop.example/groupmulticast/laws.FnExactLockFree", spec := "fnExactLockFree", inPlace := ["internal/reflectlite.ValueOf", "(internal/reflectlite.Value).Type", "(internal/reflectlite.Value).IsNil", "internal/reflectlite.TypeOf", "(internal/reflectlite.Value).Elem", "(internal/reflectlite.Value).Set"], unfollowed := true, recurses := true, named := ["errors.errorType"], apart := false, laid := [("errors.errorType", laid_errors_errorType)], narrowed := true }
def FnExactLockFreeUptoSaid : Prop := fnExactLockFreeUptoRow.holds Tryd.pinned (OpenSpec.upto fnExactLockFreeSpec)

/-- 'laws.FnLockAskRefused', WHERE WHAT IT READS IS OF BULK AT MOST 1048576: true; the input reads as it did. -/
def fnLockAskRefusedUptoRow : OpenClaim := { program := "ytohbmkppfbbngaadoor", sum := "081066528d63d53aee7a847733dc3b72839900b60a8b11f14cf9582bb60eb6da", func := "loop.example/groupmulticast/laws.FnLockAskRefused", spec := "fnLockAskRefused", inPlace := ["internal/reflectlite.ValueOf", "(internal/reflectlite.Value).Type", "(internal/reflectlite.Value).IsNil", "internal/reflectlite.TypeOf", "(internal/reflectlite.Value).Elem", "(internal/reflectlite.Value).Set"], unfollowed := true, recurses := true, named := ["errors.errorType"], apart := false, laid := [("errors.errorType", laid_errors_errorType)], narrowed := true }
def FnLockAskRefusedUptoSaid : Prop := fnLockAskRefusedUptoRow.holds Tryd.pinned (OpenSpec.upto fnLockAskRefusedSpec)

/-- 'laws.FnLockFree', WHERE WHAT IT READS IS OF BULK AT MOST 1048576: true; the input reads as it did. -/
def fnLockFreeUptoRow : OpenClaim := { program := "ytohbmkppfbbngaadoor", sum := "081066528d63d53aee7a847733dc3b72839900b60a8b11f14cf9582bb60eb6da", func := "loop.example/groupmulticast/laws.FnLockFree", spec := "fnLockFree", inPlace := ["internal/reflectlite.ValueOf", "(internal/reflectlite.Value).Type", "(internal/reflectlite.Value).IsNil", "internal/reflectlite.TypeOf", "(internal/reflectlite.Value).Elem", "(internal/reflectlite.Value).Set"], unfollowed := true, recurses := true, named := ["errors.errorType"], apart := false, laid := [("errors.errorType", laid_errors_errorType)], narrowed := true }
def FnLockFreeUptoSaid : Prop := fnLockFreeUptoRow.holds Tryd.pinned (OpenSpec.upto fnLockFreeSpec)

/-- 'laws.FnLockLeave', WHERE WHAT IT READS IS OF BULK AT MOST 1048576: true; the input reads as it did. -/
def fnLockLeaveUptoRow : OpenClaim := { program := "ytohbmkppfbbngaadoor", sum := "081066528d63d53aee7a847733dc3b72839900b60a8b11f14cf9582bb60eb6da", func := "loop.example/groupmulticast/laws.FnLockLeave", spec := "fnLockLeave", inPlace := ["internal/reflectlite.ValueOf", "(internal/reflectlite.Value).Type", "(internal/reflectlite.Value).IsNil", "internal/reflectlite.TypeOf", "(internal/reflectlite.Value).Elem", "(internal/reflectlite.Value).Set"], unfollowed := true, recurses := true, named := ["errors.errorType"], apart := false, laid := [("errors.errorType", laid_errors_errorType)], narrowed := true }
def FnLockLeaveUptoSaid : Prop := fnLockLeaveUptoRow.holds Tryd.pinned (OpenSpec.upto fnLockLeaveSpec)

/-- 'laws.FnLockBack', WHERE WHAT IT READS IS OF BULK AT MOST 1048576: true; the input reads as it did. -/
def fnLockBackUptoRow : OpenClaim := { program := "ytohbmkppfbbngaadoor", sum := "081066528d63d53aee7a847733dc3b72839900b60a8b11f14cf9582bb60eb6da", func := "loop.example/groupmulticast/laws.FnLockBack", spec := "fnLockBack", inPlace := ["internal/reflectlite.ValueOf", "(internal/reflectlite.Value).Type", "(internal/reflectlite.Value).IsNil", "internal/reflectlite.TypeOf", "(internal/reflectlite.Value).Elem", "(internal/reflectlite.Value).Set"], unfollowed := true, recurses := true, named := ["errors.errorType"], apart := false, laid := [("errors.errorType", laid_errors_errorType)], narrowed := true }
def FnLockBackUptoSaid : Prop := fnLockBackUptoRow.holds Tryd.pinned (OpenSpec.upto fnLockBackSpec)

/-- 'laws.FnLockFences', WHERE WHAT IT READS IS OF BULK AT MOST 1048576: true; the input reads as it did. -/
def fnLockFencesUptoRow : OpenClaim := { program := "ytohbmkppfbbngaadoor", sum := "081066528d63d53aee7a847733dc3b72839900b60a8b11f14cf9582bb60eb6da", func := "loop.example/groupmulticast/laws.FnLockFences", spec := "fnLockFences", inPlace := ["internal/reflectlite.ValueOf", "(internal/reflectlite.Value).Type", "(internal/reflectlite.Value).IsNil", "internal/reflectlite.TypeOf", "(internal/reflectlite.Value).Elem", "(internal/reflectlite.Value).Set"], unfollowed := true, recurses := true, named := ["errors.errorType"], apart := false, laid := [("errors.errorType", laid_errors_errorType)], narrowed := true }
def FnLockFencesUptoSaid : Prop := fnLockFencesUptoRow.holds Tryd.pinned (OpenSpec.upto fnLockFencesSpec)

/-- 'laws.FnLockValid', WHERE WHAT IT READS IS OF BULK AT MOST 1048576: true; the input reads as it did. -/
def fnLockValidUptoRow : OpenClaim := { program := "ytohbmkppfbbngaadoor", sum := "081066528d63d53aee7a847733dc3b72839900b60a8b11f14cf9582bb60eb6da", func := "loop.example/groupmulticast/laws.FnLockValid", spec := "fnLockValid", inPlace := ["internal/reflectlite.ValueOf", "(internal/reflectlite.Value).Type", "(internal/reflectlite.Value).IsNil", "internal/reflectlite.TypeOf", "(internal/reflectlite.Value).Elem", "(internal/reflectlite.Value).Set"], unfollowed := true, recurses := true, named := ["errors.errorType"], apart := false, laid := [("errors.errorType", laid_errors_errorType)], narrowed := true }
def FnLockValidUptoSaid : Prop := fnLockValidUptoRow.holds Tryd.pinned (OpenSpec.upto fnLockValidSpec)

end Rows
end Go.Proofs.YtohbmkppfbbngaaDoor
