/- What a function that takes over heaplets returns, some of its results in cells. Conditions: none. -/
import Derived.Test.YtaidejjdmkghoaaGreatSol
namespace Go.Proofs.YtaidejjdmkghoaaGreat
open Go
end Go.Proofs.YtaidejjdmkghoaaGreat
