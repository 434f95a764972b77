/- What the rows want of the program. Conditions: none. -/
import Derived.Test.YtidllhcfcmjggaaRow
namespace Go.Proofs.Ytidllhcfcmjggaa
open Go Go.ChangeShapes Go.WideShapes Go.ChangeAt Go.RowKit
theorem Try.own : ownKnob Try.prog.godebug = none := by kernel_rfl
theorem Try.laidOut : laidOutB Try.prog = true := by kernel_rfl
theorem conT100 : ConT Try.prog 100 3 23 57 := ⟨⟨_, Try.underlying100, rfl⟩, by kernel_rfl, Try.underlying3, by kernel_rfl, Try.underlying23, by kernel_rfl, Try.underlying57, by kernel_rfl, of_decide_eq_true (by kernel_rfl), of_decide_eq_true (by kernel_rfl), of_decide_eq_true (by kernel_rfl)⟩
theorem modT41 : ModT Try.prog 41 39 100 3 23 57 := ⟨⟨_, Try.underlying41, rfl⟩, by kernel_rfl, Try.underlying39, by kernel_rfl, conT100⟩
end Go.Proofs.Ytidllhcfcmjggaa
