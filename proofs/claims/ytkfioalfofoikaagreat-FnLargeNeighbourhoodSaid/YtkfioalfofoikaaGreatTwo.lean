/- What a function that takes over heaplets returns, some of its results in cells. Conditions: none. -/
import Derived.Test.YtkfioalfofoikaaGreatSol
namespace Go.Proofs.YtkfioalfofoikaaGreat
open Go
end Go.Proofs.YtkfioalfofoikaaGreat
