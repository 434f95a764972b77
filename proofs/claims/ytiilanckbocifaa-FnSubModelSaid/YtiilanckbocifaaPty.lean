/- What the rows want of the program. Conditions: none. -/
import Derived.Test.YtiilanckbocifaaRow
namespace Go.Proofs.Ytiilanckbocifaa
open Go Go.ChangeShapes Go.WideShapes Go.ChangeAt Go.RowKit
theorem Try.own : ownKnob Try.prog.godebug = none := by kernel_rfl
theorem Try.laidOut : laidOutB Try.prog = true := by kernel_rfl
end Go.Proofs.Ytiilanckbocifaa
