/- What the rows want of the program. Conditions: none. -/
import Derived.Test.YtemnfjcjjekfgaaRow
namespace Go.Proofs.Ytemnfjcjjekfgaa
open Go Go.ChangeShapes Go.WideShapes Go.ChangeAt Go.RowKit
theorem Try.own : ownKnob Try.prog.godebug = none := by kernel_rfl
theorem Try.laidOut : laidOutB Try.prog = true := by kernel_rfl
theorem conT82 : ConT Try.prog 82 3 23 59 := ⟨⟨_, Try.underlying82, rfl⟩, by kernel_rfl, Try.underlying3, by kernel_rfl, Try.underlying23, by kernel_rfl, Try.underlying59, by kernel_rfl, of_decide_eq_true (by kernel_rfl), of_decide_eq_true (by kernel_rfl), of_decide_eq_true (by kernel_rfl)⟩
theorem modT36 : ModT Try.prog 36 34 82 3 23 59 := ⟨⟨_, Try.underlying36, rfl⟩, by kernel_rfl, Try.underlying34, by kernel_rfl, conT82⟩
end Go.Proofs.Ytemnfjcjjekfgaa
