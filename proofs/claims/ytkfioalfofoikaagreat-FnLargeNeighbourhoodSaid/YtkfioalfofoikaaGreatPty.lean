/- What the rows want of the program. Conditions: none. -/
import Derived.Test.YtkfioalfofoikaaGreatRow
namespace Go.Proofs.YtkfioalfofoikaaGreat
open Go Go.ChangeShapes Go.WideShapes Go.ChangeAt Go.RowKit
theorem Tryz.own : ownKnob Tryz.prog.godebug = none := by kernel_rfl
theorem Tryz.laidOut : laidOutB Tryz.prog = true := by kernel_rfl
end Go.Proofs.YtkfioalfofoikaaGreat
