/- The iterator's side of a loop over a function: what it carries for its caller. Conditions: none. -/
import Derived.Test.YtiilanckbocifaaGreatRdr
import Derived.Test.YtiilanckbocifaaGreatPureQ
namespace Go.Proofs.YtiilanckbocifaaGreat
open Go
set_option linter.unusedSimpArgs false
set_option linter.unusedVariables false
/-! ### Calls that carry the caller's word -/
structure JK (j : (Nat → Prop) → World → Prop) : Prop where ok : JOk j
section rets
variable {P : Program} {n : Nat} {B : World} {ims L : List Hp} {G : Env} {fn : Func} {Kr : Hp} {imsO L0 : List Hp} {phi : Value → List Hp → ((Nat → Prop) → World → Prop) → Prop} {j : (Nat → Prop) → World → Prop} {hj : JK j}
end rets
section calls
variable {P : Program} {nt : Nat} {B : World} {df : List Deferred} {R : Option Nat} {ops : Array Oper} {Q : Post} {ims L : List Hp} {G : Env} {fl : List Bool} {rest : List Oper} {d ty : Nat} {pos : String} {af : Array Edge} {Kr : Hp} {imsO : List Hp} {j : (Nat → Prop) → World → Prop} {hj : JK j}
end calls
/-! ### Yield -/
section ki
variable {C : Cx} {Q : Post} {ops : Array Oper} {ims L : List Hp} {G : Env} {rest : List Oper} {d ty : Nat} {pos : String} {af : Array Edge}
end ki
/-! ### All tuples, in order -/
def tupL : List Int → List (List Int)
  | [] => [[]]
  | d :: ds => (valsI d).flatMap (fun v => (tupL ds).map (fun r => v :: r))
end Go.Proofs.YtiilanckbocifaaGreat
