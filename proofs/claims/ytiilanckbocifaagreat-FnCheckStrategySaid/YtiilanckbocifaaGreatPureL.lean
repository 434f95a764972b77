/- Plain law: a neighbourhood of an assignment has the solutions that agree with it. No program in sight. Conditions: none. -/
import Derived.Test.YtiilanckbocifaaGreatPureE
import Derived.Test.YtiilanckbocifaaGreatRdr
namespace Go.Proofs.YtiilanckbocifaaGreat
open Go
set_option linter.unusedSimpArgs false
set_option linter.unusedVariables false
/-! The law. -/
end Go.Proofs.YtiilanckbocifaaGreat
