/- Tables of the library: what is read out of one. Conditions: none. -/
import Derived.Test.YtojinjdobjodaaaGreatRdr
import Derived.Test.YtojinjdobjodaaaGreatPureT
namespace Go.Proofs.YtojinjdobjodaaaGreat
open Go
set_option linter.unusedSimpArgs false
set_option linter.unusedVariables false
class IsArr (P : Program) (T : Nat) (n : outParam Nat) : Prop where
  u : ∃ E, P.underlying T = some (.array n E) ∧ (P.info? E).map (·.size) = some 1
class IsStr (P : Program) (T : Nat) : Prop where
  u : P.underlying T = some .string
section ops
variable {C : Cx} {dr : Bool} {ops : Array Oper} {Q : Post} {ims L : List Hp} {G : Env} {fl : List Bool} {rest : List Oper} {d ty : Nat} {pos : String} {af : Array Edge}
end ops
end Go.Proofs.YtojinjdobjodaaaGreat
