/- Neighbours are symmetric; winning values decide the formula. No program in sight. Conditions: none. -/
import Derived.Test.YtaidejjdmkghoaaGreatPureQ
namespace Go.Proofs.YtaidejjdmkghoaaGreat
open Go
set_option linter.unusedSimpArgs false
set_option linter.unusedVariables false
/-! Winning values. -/
/-! A winning value keeps the formula true. -/
def domVI (d : Int) : List Int := if withinB d 0 63 = true then valsI d else []
def dhasB (d v : Int) : Bool := (withinB d 0 63 && withinB v 0 5) && hasB d v
end Go.Proofs.YtaidejjdmkghoaaGreat
