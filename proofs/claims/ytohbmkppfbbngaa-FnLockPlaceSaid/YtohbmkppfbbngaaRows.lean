/-
  No cell of these rows narrows 'for every input' (looked for: loops, veiled, ifaces, maps, wideKeys, modest, calm, conditions, laid).
  DERIVED. THE GIVEN ROWS OF THIS SEAT. 4 by the template 'for every input the law returns true; each argument reads behind the call as it read before'; 0 by the template 'total and deterministic' (their statements: YtohbmkppfbbngaaTotals.lean).
  GIVEN WITH THE SEED: the statements are not yours to turn. If you find one false, say at which input.
  Laid BY PROGRAM, IN A SANDBOX (cutbox-rows.mjs): the forced cells as the released guide's own fill.sh prints them over the translation 4b34cb67ef3d9a1f… (all of the seat's roots in one cut). By AI agents, Wed Nov 11 2026. No macro, syntax, notation, axiom, sorry.
-/
import Derived.Test.YtohbmkppfbbngaaChecked
import GoSem.Claim
import GoSem.ClaimJoined
import GoSem.ClaimMapViews
import Derived.JoinedTies
import Derived.KernelRfl
namespace Go.Proofs.Ytohbmkppfbbngaa
/- THE CELL 'sum', in the pinned program and in every row, IS THE sha256 OF THE DUMP (.gsa) THAT YtohbmkppfbbngaaProg.lean LOADS. Nothing in Lean hashes anything: it is a label: what it is worth is what the hold of that sum in a sandbox is worth. -/
noncomputable def Try.pinned : Pinned := { name := "ytohbmkppfbbngaa", sum := "4b34cb67ef3d9a1fbad9044b411fadc27019ada769c8011f72c7fc3aee358942", checked := Try.checked }
namespace Rows
def none {H : Type} : Left H := { results := [], args := [] }

/-- 'laws.FnExactLockValid': WHATEVER THE INPUT: true; the input reads as it did. -/
def fnExactLockValidSpec : ChangeSpec := { name := "fnExactLockValid", fn := fun _ => fun
  | [d] => { results := [.lit (.bool true)], args := [d] }
  | _ => none }
def fnExactLockValidRow : OpenClaim := { program := "ytohbmkppfbbngaa", sum := "4b34cb67ef3d9a1fbad9044b411fadc27019ada769c8011f72c7fc3aee358942", func := "loop.example/groupmulticast/laws.FnExactLockValid", spec := "fnExactLockValid", apart := false }
def FnExactLockValidSaid : Prop := fnExactLockValidRow.holds Try.pinned (OpenSpec.ofChange fnExactLockValidSpec)

/-- ITS FALSE NEIGHBOUR: 'it returns false'. Refute it at one input. -/
def fnExactLockValidWrong : ChangeSpec := { name := "fnExactLockValid", fn := fun _ => fun
  | [d] => { results := [.lit (.bool false)], args := [d] }
  | _ => none }
def FnExactLockValidWrongFalsely : Prop := fnExactLockValidRow.holds Try.pinned (OpenSpec.ofChange fnExactLockValidWrong)

/-- 'laws.FnExactLockPlace': WHATEVER THE INPUT: true; the input reads as it did. -/
def fnExactLockPlaceSpec : ChangeSpec := { name := "fnExactLockPlace", fn := fun _ => fun
  | [d1, d2] => { results := [.lit (.bool true)], args := [d1, d2] }
  | _ => none }
def fnExactLockPlaceRow : OpenClaim := { program := "ytohbmkppfbbngaa", sum := "4b34cb67ef3d9a1fbad9044b411fadc27019ada769c8011f72c7fc3aee358942", func := "loop.example/groupmulticast/laws.FnExactLockPlace", spec := "fnExactLockPlace", apart := false }
def FnExactLockPlaceSaid : Prop := fnExactLockPlaceRow.holds Try.pinned (OpenSpec.ofChange fnExactLockPlaceSpec)

/-- ITS FALSE NEIGHBOUR: 'it returns false'. Refute it at one input. -/
def fnExactLockPlaceWrong : ChangeSpec := { name := "fnExactLockPlace", fn := fun _ => fun
  | [d1, d2] => { results := [.lit (.bool false)], args := [d1, d2] }
  | _ => none }
def FnExactLockPlaceWrongFalsely : Prop := fnExactLockPlaceRow.holds Try.pinned (OpenSpec.ofChange fnExactLockPlaceWrong)

/-- 'laws.FnLockOne': WHATEVER THE INPUT: true; the input reads as it did. -/
def fnLockOneSpec : ChangeSpec := { name := "fnLockOne", fn := fun _ => fun
  | [d] => { results := [.lit (.bool true)], args := [d] }
  | _ => none }
def fnLockOneRow : OpenClaim := { program := "ytohbmkppfbbngaa", sum := "4b34cb67ef3d9a1fbad9044b411fadc27019ada769c8011f72c7fc3aee358942", func := "loop.example/groupmulticast/laws.FnLockOne", spec := "fnLockOne", apart := false }
def FnLockOneSaid : Prop := fnLockOneRow.holds Try.pinned (OpenSpec.ofChange fnLockOneSpec)

/-- ITS FALSE NEIGHBOUR: 'it returns false'. Refute it at one input. -/
def fnLockOneWrong : ChangeSpec := { name := "fnLockOne", fn := fun _ => fun
  | [d] => { results := [.lit (.bool false)], args := [d] }
  | _ => none }
def FnLockOneWrongFalsely : Prop := fnLockOneRow.holds Try.pinned (OpenSpec.ofChange fnLockOneWrong)

/-- 'laws.FnLockPlace': WHATEVER THE INPUT: true; the input reads as it did. -/
def fnLockPlaceSpec : ChangeSpec := { name := "fnLockPlace", fn := fun _ => fun
  | [d] => { results := [.lit (.bool true)], args := [d] }
  | _ => none }
def fnLockPlaceRow : OpenClaim := { program := "ytohbmkppfbbngaa", sum := "4b34cb67ef3d9a1fbad9044b411fadc27019ada769c8011f72c7fc3aee358942", func := "loop.example/groupmulticast/laws.FnLockPlace", spec := "fnLockPlace", apart := false }
def FnLockPlaceSaid : Prop := fnLockPlaceRow.holds Try.pinned (OpenSpec.ofChange fnLockPlaceSpec)

/-- ITS FALSE NEIGHBOUR: 'it returns false'. Refute it at one input. -/
def fnLockPlaceWrong : ChangeSpec := { name := "fnLockPlace", fn := fun _ => fun
  | [d] => { results := [.lit (.bool false)], args := [d] }
  | _ => none }
def FnLockPlaceWrongFalsely : Prop := fnLockPlaceRow.holds Try.pinned (OpenSpec.ofChange fnLockPlaceWrong)

/- THE SECOND FORM. 'bulk': how many values and letters a reading holds, each counted each time it is reached (what is shared counts as often as it is met; a slice's spare places count too). A statement '..UptoSaid' is the law's where the arguments, and the package variables that the reading takes, are together of bulk at most 1048576: NARROWER than '..Said'. Prove '..Said' where nothing that the law and all that it calls make is longer than what came in: it says more and counts as full. Else prove '..UptoSaid'. A law counts once. -/
mutual
def uptoBulk {H : Type} : DataW H → Nat
  | .lit (.string bytes) => bytes.length + 1
  | .lit _ => 1
  | .nil => 1
  | .ptr d => uptoBulk d + 1
  | .slice elems spare => uptoBulkAll elems + uptoBulkAll spare + 1
  | .agg parts => uptoBulkAll parts + 1
  | .iface _ d => uptoBulk d + 1
  | .map entries => uptoBulkEntries entries + 1
  | .held _ => 1
def uptoBulkAll {H : Type} : List (DataW H) → Nat
  | [] => 0
  | d :: r => uptoBulk d + uptoBulkAll r
def uptoBulkEntries {H : Type} : List (Lit × DataW H) → Nat
  | [] => 0
  | x :: r => uptoBulkEntry x + uptoBulkEntries r
def uptoBulkEntry {H : Type} : Lit × DataW H → Nat
  | (.string bytes, d) => bytes.length + uptoBulk d + 1
  | (_, d) => uptoBulk d + 1
 end
def uptoSmall : (H : Type) → List (DataW H) → Bool := fun _ ds => decide (uptoBulkAll ds ≤ 1048576)
def OpenSpec.upto (s : _root_.Go.ChangeSpec) : _root_.Go.OpenSpec := { _root_.Go.OpenSpec.ofChange s with cond := some uptoSmall }

/-- 'laws.FnExactLockValid', WHERE WHAT IT READS IS OF BULK AT MOST 1048576: true; the input reads as it did. -/
def fnExactLockValidUptoRow : OpenClaim := { program := "ytohbmkppfbbngaa", sum := "4b34cb67ef3d9a1fbad9044b411fadc27019ada769c8011f72c7fc3aee358942", func := "loop.example/groupmulticast/laws.FnExactLockValid", spec := "fnExactLockValid", apart := false, narrowed := true }
def FnExactLockValidUptoSaid : Prop := fnExactLockValidUptoRow.holds Try.pinned (OpenSpec.upto fnExactLockValidSpec)

/-- 'laws.FnExactLockPlace', WHERE WHAT IT READS IS OF BULK AT MOST 1048576: true; the input reads as it did. -/
def fnExactLockPlaceUptoRow : OpenClaim := { program := "ytohbmkppfbbngaa", sum := "4b34cb67ef3d9a1fbad9044b411fadc27019ada769c8011f72c7fc3aee358942", func := "loop.example/groupmulticast/laws.FnExactLockPlace", spec := "fnExactLockPlace", apart := false, narrowed := true }
def FnExactLockPlaceUptoSaid : Prop := fnExactLockPlaceUptoRow.holds Try.pinned (OpenSpec.upto fnExactLockPlaceSpec)

/-- 'laws.FnLockOne', WHERE WHAT IT READS IS OF BULK AT MOST 1048576: true; the input reads as it did. -/
def fnLockOneUptoRow : OpenClaim := { program := "ytohbmkppfbbngaa", sum := "4b34cb67ef3d9a1fbad9044b411fadc27019ada769c8011f72c7fc3aee358942", func := "loop.example/groupmulticast/laws.FnLockOne", spec := "fnLockOne", apart := false, narrowed := true }
def FnLockOneUptoSaid : Prop := fnLockOneUptoRow.holds Try.pinned (OpenSpec.upto fnLockOneSpec)

/-- 'laws.FnLockPlace', WHERE WHAT IT READS IS OF BULK AT MOST 1048576: true; the input reads as it did. -/
def fnLockPlaceUptoRow : OpenClaim := { program := "ytohbmkppfbbngaa", sum := "4b34cb67ef3d9a1fbad9044b411fadc27019ada769c8011f72c7fc3aee358942", func := "loop.example/groupmulticast/laws.FnLockPlace", spec := "fnLockPlace", apart := false, narrowed := true }
def FnLockPlaceUptoSaid : Prop := fnLockPlaceUptoRow.holds Try.pinned (OpenSpec.upto fnLockPlaceSpec)

end Rows
end Go.Proofs.Ytohbmkppfbbngaa
