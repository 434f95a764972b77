/- Plain law: entailment, propagated domains, backbones. No program in sight. Conditions: none. -/
import Derived.Test.YtojinjdobjodaaaGreatPureV
namespace Go.Proofs.YtojinjdobjodaaaGreat
open Go
set_option linter.unusedSimpArgs false
set_option linter.unusedVariables false
/-! The values in a list of tuples. -/
end Go.Proofs.YtojinjdobjodaaaGreat
