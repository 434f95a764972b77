/- Tables of the library: what is read out of one. Conditions: none. -/
import Derived.Test.YtaidejjdmkghoaaGreatRdr
import Derived.Test.YtaidejjdmkghoaaGreatPureT
namespace Go.Proofs.YtaidejjdmkghoaaGreat
open Go
set_option linter.unusedSimpArgs false
set_option linter.unusedVariables false
def tabL : List Int := [0, 1, 56, 2, 57, 49, 28, 3, 61, 58, 42, 50, 38, 29, 17, 4, 62, 47, 59, 36, 45, 43, 51, 22, 53, 39, 33, 30, 24, 18, 12, 5, 63, 55, 48, 27, 60, 41, 37, 16, 46, 35, 44, 21, 52, 32, 23, 11, 54, 26, 40, 15, 34, 20, 31, 10, 25, 14, 19, 9, 13, 8, 7, 6]
def tabV : List Value := tabL.map (Value.int .u8)
class IsArr (P : Program) (T : Nat) (n : outParam Nat) : Prop where
  u : ∃ E, P.underlying T = some (.array n E) ∧ (P.info? E).map (·.size) = some 1
class IsStr (P : Program) (T : Nat) : Prop where
  u : P.underlying T = some .string
section ops
variable {C : Cx} {dr : Bool} {ops : Array Oper} {Q : Post} {ims L : List Hp} {G : Env} {fl : List Bool} {rest : List Oper} {d ty : Nat} {pos : String} {af : Array Edge}
end ops
/-- The place in the table that the program asks for. -/
def tzIx (x : Int) : Int := Int.fdiv (IntKind.u64.wrap (bits .and .u64 x (IntKind.u64.wrap (0 - x)) * 285870213051353865)) (2 ^ min (Int.toNat 58) (IntKind.bits .u64))
end Go.Proofs.YtaidejjdmkghoaaGreat
