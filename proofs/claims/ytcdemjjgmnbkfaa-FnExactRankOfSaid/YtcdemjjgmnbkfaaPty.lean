/- What the rows want of the program. Conditions: none. -/
import Derived.Test.YtcdemjjgmnbkfaaRow
namespace Go.Proofs.Ytcdemjjgmnbkfaa
open Go Go.ChangeShapes Go.WideShapes Go.ChangeAt Go.RowKit
theorem Try.own : ownKnob Try.prog.godebug = none := by kernel_rfl
theorem Try.laidOut : laidOutB Try.prog = true := by kernel_rfl
theorem conT94 : ConT Try.prog 94 3 22 51 := ⟨⟨_, Try.underlying94, rfl⟩, by kernel_rfl, Try.underlying3, by kernel_rfl, Try.underlying22, by kernel_rfl, Try.underlying51, by kernel_rfl, of_decide_eq_true (by kernel_rfl), of_decide_eq_true (by kernel_rfl), of_decide_eq_true (by kernel_rfl)⟩
theorem modT25 : ModT Try.prog 25 23 94 3 22 51 := ⟨⟨_, Try.underlying25, rfl⟩, by kernel_rfl, Try.underlying23, by kernel_rfl, conT94⟩
end Go.Proofs.Ytcdemjjgmnbkfaa
