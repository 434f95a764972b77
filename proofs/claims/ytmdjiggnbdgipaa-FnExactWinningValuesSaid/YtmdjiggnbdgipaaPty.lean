/- What the rows want of the program. Conditions: none. -/
import Derived.Test.YtmdjiggnbdgipaaRow
namespace Go.Proofs.Ytmdjiggnbdgipaa
open Go Go.ChangeShapes Go.WideShapes Go.ChangeAt Go.RowKit
theorem Try.own : ownKnob Try.prog.godebug = none := by kernel_rfl
theorem Try.laidOut : laidOutB Try.prog = true := by kernel_rfl
theorem conT87 : ConT Try.prog 87 3 22 50 := ⟨⟨_, Try.underlying87, rfl⟩, by kernel_rfl, Try.underlying3, by kernel_rfl, Try.underlying22, by kernel_rfl, Try.underlying50, by kernel_rfl, of_decide_eq_true (by kernel_rfl), of_decide_eq_true (by kernel_rfl), of_decide_eq_true (by kernel_rfl)⟩
theorem modT25 : ModT Try.prog 25 23 87 3 22 50 := ⟨⟨_, Try.underlying25, rfl⟩, by kernel_rfl, Try.underlying23, by kernel_rfl, conT87⟩
end Go.Proofs.Ytmdjiggnbdgipaa
