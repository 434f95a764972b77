/- Plain law: literals over values, and the number of solutions that make literals true. No program in sight. Conditions: none. -/
import Derived.Test.YtkfioalfofoikaaGreatPureV
import Derived.Test.YtkfioalfofoikaaGreatPureZ
import Derived.Test.YtkfioalfofoikaaGreatLit
namespace Go.Proofs.YtkfioalfofoikaaGreat
open Go
set_option linter.unusedSimpArgs false
set_option linter.unusedVariables false
end Go.Proofs.YtkfioalfofoikaaGreat
