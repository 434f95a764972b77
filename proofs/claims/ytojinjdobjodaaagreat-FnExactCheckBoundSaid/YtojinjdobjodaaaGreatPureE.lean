/- Plain law: models without one constraint, weaker quantifiers, entailment. No program in sight. Conditions: none. -/
import Derived.Test.YtojinjdobjodaaaGreatPureX
namespace Go.Proofs.YtojinjdobjodaaaGreat
open Go
set_option linter.unusedSimpArgs false
set_option linter.unusedVariables false
/-! Entailment. -/
end Go.Proofs.YtojinjdobjodaaaGreat
