/- What the rows want of the program. Conditions: none. -/
import Derived.Test.YtiilanckbocifaaDoorRow
namespace Go.Proofs.YtiilanckbocifaaDoor
open Go Go.ChangeShapes Go.WideShapes Go.ChangeAt Go.RowKit
theorem Tryd.own : ownKnob Tryd.prog.godebug = none := by kernel_rfl
theorem Tryd.laidOut : laidOutB Tryd.prog = true := by kernel_rfl
end Go.Proofs.YtiilanckbocifaaDoor
