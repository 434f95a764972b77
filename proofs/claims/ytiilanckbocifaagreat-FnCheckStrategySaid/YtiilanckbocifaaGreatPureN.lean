/- Neighbours are symmetric; winning values decide the formula. No program in sight. Conditions: none. -/
import Derived.Test.YtiilanckbocifaaGreatPureQ
namespace Go.Proofs.YtiilanckbocifaaGreat
open Go
set_option linter.unusedSimpArgs false
set_option linter.unusedVariables false
/-! Winning values. -/
/-! A winning value keeps the formula true. -/
end Go.Proofs.YtiilanckbocifaaGreat
