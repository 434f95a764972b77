/- What a function that takes over heaplets returns, some of its results in cells. Conditions: none. -/
import Derived.Test.YtojinjdobjodaaaGreatSol
namespace Go.Proofs.YtojinjdobjodaaaGreat
open Go
end Go.Proofs.YtojinjdobjodaaaGreat
