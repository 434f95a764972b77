/- Plain law: a neighbourhood of an assignment has the solutions that agree with it. No program in sight. Conditions: none. -/
import Derived.Test.YtojinjdobjodaaaGreatPureE
import Derived.Test.YtojinjdobjodaaaGreatRdr
namespace Go.Proofs.YtojinjdobjodaaaGreat
open Go
set_option linter.unusedSimpArgs false
set_option linter.unusedVariables false
/-! The law. -/
end Go.Proofs.YtojinjdobjodaaaGreat
