/- What the rows want of the program. Conditions: none. -/
import Derived.Test.YtpnkinblekmjlaaGreatDoorRow
namespace Go.Proofs.YtpnkinblekmjlaaGreatDoor
open Go Go.ChangeShapes Go.WideShapes Go.ChangeAt Go.RowKit
theorem Tryz.own : ownKnob Tryz.prog.godebug = none := by kernel_rfl
theorem Tryz.laidOut : laidOutB Tryz.prog = true := by kernel_rfl
theorem conT69 : ConT Tryz.prog 69 3 22 67 := ⟨⟨_, Tryz.underlying69, rfl⟩, by kernel_rfl, Tryz.underlying3, by kernel_rfl, Tryz.underlying22, by kernel_rfl, Tryz.underlying67, by kernel_rfl, of_decide_eq_true (by kernel_rfl), of_decide_eq_true (by kernel_rfl), of_decide_eq_true (by kernel_rfl)⟩
theorem modT25 : ModT Tryz.prog 25 23 69 3 22 67 := ⟨⟨_, Tryz.underlying25, rfl⟩, by kernel_rfl, Tryz.underlying23, by kernel_rfl, conT69⟩
end Go.Proofs.YtpnkinblekmjlaaGreatDoor
