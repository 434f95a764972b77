/- Plain law: bounds of search trees. No program in sight. Conditions: none. -/
import Derived.Test.YtojinjdobjodaaaGreatPureO
namespace Go.Proofs.YtojinjdobjodaaaGreat
open Go
set_option linter.unusedSimpArgs false
set_option linter.unusedVariables false
section tree
variable {m : Mod} {obj ds : List Int}
end tree
end Go.Proofs.YtojinjdobjodaaaGreat
