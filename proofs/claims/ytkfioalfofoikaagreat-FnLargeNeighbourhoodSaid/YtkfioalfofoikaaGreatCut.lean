/- Parts of lists that a call owns: x[:i], x[j:], append(x[:i], x[j:]...), clear of what lies behind. Conditions: none. -/
import Derived.Test.YtkfioalfofoikaaGreatTwo
namespace Go.Proofs.YtkfioalfofoikaaGreat
open Go
set_option linter.unusedSimpArgs false
set_option linter.unusedVariables false
section ops
variable {C : Cx} {dr : Bool} {ops : Array Oper} {Q : Post} {ims L : List Hp} {G : Env} {fl : List Bool} {rest : List Oper} {d ty : Nat} {pos : String} {af : Array Edge}
variable {A : Type} {R : Rel A} {E k : Nat} {H K : Hp} {v : Value} {xs : List A} {x y : Operand} {T k' by' : Nat} {z : Value}
end ops
end Go.Proofs.YtkfioalfofoikaaGreat
