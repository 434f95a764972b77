/- What the rows want of the program. Conditions: none. -/
import Derived.Test.YtigngogjgohfgaaRow
namespace Go.Proofs.Ytigngogjgohfgaa
open Go Go.ChangeShapes Go.WideShapes Go.ChangeAt Go.RowKit
theorem Try.own : ownKnob Try.prog.godebug = none := by kernel_rfl
theorem Try.laidOut : laidOutB Try.prog = true := by kernel_rfl
theorem conT120 : ConT Try.prog 120 3 23 55 := ⟨⟨_, Try.underlying120, rfl⟩, by kernel_rfl, Try.underlying3, by kernel_rfl, Try.underlying23, by kernel_rfl, Try.underlying55, by kernel_rfl, of_decide_eq_true (by kernel_rfl), of_decide_eq_true (by kernel_rfl), of_decide_eq_true (by kernel_rfl)⟩
theorem modT44 : ModT Try.prog 44 42 120 3 23 55 := ⟨⟨_, Try.underlying44, rfl⟩, by kernel_rfl, Try.underlying42, by kernel_rfl, conT120⟩
end Go.Proofs.Ytigngogjgohfgaa
