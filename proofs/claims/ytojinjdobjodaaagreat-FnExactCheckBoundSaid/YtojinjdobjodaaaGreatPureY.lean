/- Plain law: games: who can win, what is attained, the least value. No program in sight. Conditions: none. -/
import Derived.Test.YtojinjdobjodaaaGreatPureV
import Derived.Test.YtojinjdobjodaaaGreatPureJ
namespace Go.Proofs.YtojinjdobjodaaaGreat
open Go
set_option linter.unusedSimpArgs false
set_option linter.unusedVariables false
end Go.Proofs.YtojinjdobjodaaaGreat
