/- Neighbours are symmetric; winning values decide the formula. No program in sight. Conditions: none. -/
import Derived.Test.YtkfioalfofoikaaGreatPureQ
namespace Go.Proofs.YtkfioalfofoikaaGreat
open Go
set_option linter.unusedSimpArgs false
set_option linter.unusedVariables false
/-! Winning values. -/
/-! A winning value keeps the formula true. -/
def domVI (d : Int) : List Int := if withinB d 0 63 = true then valsI d else []
end Go.Proofs.YtkfioalfofoikaaGreat
