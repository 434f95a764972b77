/- What the rows want of the program. Conditions: none. -/
import Derived.Test.YtbbphbihgikmdaaRow
namespace Go.Proofs.Ytbbphbihgikmdaa
open Go Go.ChangeShapes Go.WideShapes Go.ChangeAt Go.RowKit
theorem Try.own : ownKnob Try.prog.godebug = none := by kernel_rfl
theorem Try.laidOut : laidOutB Try.prog = true := by kernel_rfl
theorem conT97 : ConT Try.prog 97 3 22 39 := ⟨⟨_, Try.underlying97, rfl⟩, by kernel_rfl, Try.underlying3, by kernel_rfl, Try.underlying22, by kernel_rfl, Try.underlying39, by kernel_rfl, of_decide_eq_true (by kernel_rfl), of_decide_eq_true (by kernel_rfl), of_decide_eq_true (by kernel_rfl)⟩
theorem modT25 : ModT Try.prog 25 23 97 3 22 39 := ⟨⟨_, Try.underlying25, rfl⟩, by kernel_rfl, Try.underlying23, by kernel_rfl, conT97⟩
end Go.Proofs.Ytbbphbihgikmdaa
