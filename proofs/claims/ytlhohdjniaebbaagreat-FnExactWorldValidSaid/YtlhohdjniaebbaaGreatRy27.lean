/-
What is proved: a law over one slice of numbers ends well at the machine where its lone run at the second program returns true ('law_of_slice'). Conditions: those that the theorems state.
-/
import Derived.Test.YtlhohdjniaebbaaGreatRy26
import Derived.WideShapes
set_option linter.unusedVariables false
set_option linter.unusedSimpArgs false
namespace Go.Proofs.YtlhohdjniaebbaaGreat.Sr
open Go Go.Conc
end Go.Proofs.YtlhohdjniaebbaaGreat.Sr
