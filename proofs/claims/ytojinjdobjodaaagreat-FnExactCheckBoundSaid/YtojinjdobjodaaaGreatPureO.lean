/- Plain law: how far a solution is from the lower bound. No program in sight. Conditions: none. -/
import Derived.Test.YtojinjdobjodaaaGreatPureY
namespace Go.Proofs.YtojinjdobjodaaaGreat
open Go
set_option linter.unusedSimpArgs false
set_option linter.unusedVariables false
end Go.Proofs.YtojinjdobjodaaaGreat
