/- The best of a list, and distances. No program in sight. Conditions: none. -/
import Derived.Test.YtojinjdobjodaaaGreatPureR
namespace Go.Proofs.YtojinjdobjodaaaGreat
open Go
set_option linter.unusedSimpArgs false
set_option linter.unusedVariables false
/-! Distances. -/
end Go.Proofs.YtojinjdobjodaaaGreat
