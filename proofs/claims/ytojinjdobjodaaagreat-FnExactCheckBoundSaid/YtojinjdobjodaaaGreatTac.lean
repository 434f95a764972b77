/- Tables of the library, over six bits. Conditions: none. -/
import Derived.Test.YtojinjdobjodaaaGreatTab
import Derived.Test.YtojinjdobjodaaaGreatPureO
namespace Go.Proofs.YtojinjdobjodaaaGreat
open Go
set_option linter.unusedSimpArgs false
set_option linter.unusedVariables false
section ops
variable {C : Cx} {dr : Bool} {ops : Array Oper} {Q : Post} {ims L : List Hp} {G : Env} {fl : List Bool} {rest : List Oper} {d ty : Nat} {pos : String} {af : Array Edge}
end ops
end Go.Proofs.YtojinjdobjodaaaGreat
