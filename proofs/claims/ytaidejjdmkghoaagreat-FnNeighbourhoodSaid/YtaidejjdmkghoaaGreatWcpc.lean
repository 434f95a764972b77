/- Walks of functions of the program: each returns what the plain function gives. Conditions: those that each statement names. -/
import Derived.Test.YtaidejjdmkghoaaGreatWrm
import Derived.Test.YtaidejjdmkghoaaGreatTwo
namespace Go.Proofs.YtaidejjdmkghoaaGreat
open Go
set_option linter.unusedSimpArgs false
set_option linter.unusedVariables false
end Go.Proofs.YtaidejjdmkghoaaGreat
