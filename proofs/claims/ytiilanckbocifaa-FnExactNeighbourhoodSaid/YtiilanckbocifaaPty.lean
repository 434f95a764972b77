/- What the rows want of the program. Conditions: none. -/
import Derived.Test.YtiilanckbocifaaRow
namespace Go.Proofs.Ytiilanckbocifaa
open Go Go.ChangeShapes Go.WideShapes Go.ChangeAt Go.RowKit
theorem Try.own : ownKnob Try.prog.godebug = none := by kernel_rfl
theorem Try.laidOut : laidOutB Try.prog = true := by kernel_rfl
theorem conT92 : ConT Try.prog 92 3 23 32 := ⟨⟨_, Try.underlying92, rfl⟩, by kernel_rfl, Try.underlying3, by kernel_rfl, Try.underlying23, by kernel_rfl, Try.underlying32, by kernel_rfl, of_decide_eq_true (by kernel_rfl), of_decide_eq_true (by kernel_rfl), of_decide_eq_true (by kernel_rfl)⟩
theorem modT38 : ModT Try.prog 38 36 92 3 23 32 := ⟨⟨_, Try.underlying38, rfl⟩, by kernel_rfl, Try.underlying36, by kernel_rfl, conT92⟩
end Go.Proofs.Ytiilanckbocifaa
