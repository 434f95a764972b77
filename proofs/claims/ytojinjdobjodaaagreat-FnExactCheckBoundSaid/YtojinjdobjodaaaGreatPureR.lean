/- Ranks of solutions: the plain functions. No program in sight. Conditions: none. -/
import Derived.Test.YtojinjdobjodaaaGreatPureS
namespace Go.Proofs.YtojinjdobjodaaaGreat
open Go
set_option linter.unusedSimpArgs false
set_option linter.unusedVariables false
section at_
variable {m : Mod} {r : Int}
end at_
end Go.Proofs.YtojinjdobjodaaaGreat
