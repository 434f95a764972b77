/- What a function that takes over heaplets returns, some of its results in cells. Conditions: none. -/
import Derived.Test.YtiilanckbocifaaGreatSol
namespace Go.Proofs.YtiilanckbocifaaGreat
open Go
end Go.Proofs.YtiilanckbocifaaGreat
