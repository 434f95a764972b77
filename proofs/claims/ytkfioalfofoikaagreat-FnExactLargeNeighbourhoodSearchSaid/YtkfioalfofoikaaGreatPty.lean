/- What the rows want of the program. Conditions: none. -/
import Derived.Test.YtkfioalfofoikaaGreatRow
namespace Go.Proofs.YtkfioalfofoikaaGreat
open Go Go.ChangeShapes Go.WideShapes Go.ChangeAt Go.RowKit
theorem Tryz.own : ownKnob Tryz.prog.godebug = none := by kernel_rfl
theorem Tryz.laidOut : laidOutB Tryz.prog = true := by kernel_rfl
theorem conT74 : ConT Tryz.prog 74 3 22 55 := ⟨⟨_, Tryz.underlying74, rfl⟩, by kernel_rfl, Tryz.underlying3, by kernel_rfl, Tryz.underlying22, by kernel_rfl, Tryz.underlying55, by kernel_rfl, of_decide_eq_true (by kernel_rfl), of_decide_eq_true (by kernel_rfl), of_decide_eq_true (by kernel_rfl)⟩
theorem modT25 : ModT Tryz.prog 25 23 74 3 22 55 := ⟨⟨_, Tryz.underlying25, rfl⟩, by kernel_rfl, Tryz.underlying23, by kernel_rfl, conT74⟩
end Go.Proofs.YtkfioalfofoikaaGreat
