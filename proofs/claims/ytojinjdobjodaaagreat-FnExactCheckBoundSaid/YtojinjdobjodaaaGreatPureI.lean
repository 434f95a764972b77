/- Plain law: probing a value; propagation is monotone. No program in sight. Conditions: none. -/
import Derived.Test.YtojinjdobjodaaaGreatPureA
import Derived.Test.YtojinjdobjodaaaGreatPureX
import Derived.Test.YtojinjdobjodaaaGreatPureN
namespace Go.Proofs.YtojinjdobjodaaaGreat
open Go
set_option linter.unusedSimpArgs false
set_option linter.unusedVariables false
/-! Probing. -/
end Go.Proofs.YtojinjdobjodaaaGreat
