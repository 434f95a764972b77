/- Neighbours are symmetric; winning values decide the formula. No program in sight. Conditions: none. -/
import Derived.Test.YtojinjdobjodaaaGreatPureQ
namespace Go.Proofs.YtojinjdobjodaaaGreat
open Go
set_option linter.unusedSimpArgs false
set_option linter.unusedVariables false
/-! Winning values. -/
/-! A winning value keeps the formula true. -/
end Go.Proofs.YtojinjdobjodaaaGreat
