/- Laws of ranks and of quantified formulas over all solutions. No program in sight. Conditions: none. -/
import Derived.Test.YtojinjdobjodaaaGreatPureR
namespace Go.Proofs.YtojinjdobjodaaaGreat
open Go
set_option linter.unusedSimpArgs false
set_option linter.unusedVariables false
/-! Formulas with one quantifier for all. -/
end Go.Proofs.YtojinjdobjodaaaGreat
