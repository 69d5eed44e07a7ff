/-
What is proved: how a code that a law takes reads: a slice of bytes and what rests on it. Conditions: as stated.
-/
import Derived.Test.YtlhohdjniaebbaaGreatRows
import Derived.Test.YtlhohdjniaebbaaGreatRy35
import Derived.WalkKit
import Derived.ProofKit
import Derived.OpenShut
import Derived.ChangeOld
import Derived.Lib.SmallJoins
import Derived.Test.YtlhohdjniaebbaaGreatRy27
import Derived.Test.YtlhohdjniaebbaaGreatRy40
import Derived.Test.YtlhohdjniaebbaaGreatRy38
set_option linter.unusedVariables false
set_option linter.unusedSimpArgs false
namespace Go.Proofs.YtlhohdjniaebbaaGreat
open Go.ChangeShapes Go.WideShapes Go.ChangeAt Go.RowKit Go.Joins
theorem own:ownKnob Tryz.prog.godebug=none:=by kernel_rfl
theorem laidOut:laidOutB Tryz.prog=true:=by kernel_rfl
end Go.Proofs.YtlhohdjniaebbaaGreat
namespace Go.Proofs.YtlhohdjniaebbaaGreat.T
open Go Go.RowKit
end Go.Proofs.YtlhohdjniaebbaaGreat.T
