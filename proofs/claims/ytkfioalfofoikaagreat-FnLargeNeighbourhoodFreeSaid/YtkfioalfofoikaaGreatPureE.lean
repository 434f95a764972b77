/- Plain law: models without one constraint, weaker quantifiers, entailment. No program in sight. Conditions: none. -/
import Derived.Test.YtkfioalfofoikaaGreatPureX
namespace Go.Proofs.YtkfioalfofoikaaGreat
open Go
set_option linter.unusedSimpArgs false
set_option linter.unusedVariables false
/-! Entailment. -/
end Go.Proofs.YtkfioalfofoikaaGreat
