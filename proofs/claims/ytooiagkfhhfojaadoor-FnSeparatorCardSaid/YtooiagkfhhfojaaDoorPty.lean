/- What the rows want of the program. Conditions: none. -/
import Derived.Test.YtooiagkfhhfojaaDoorRow
namespace Go.Proofs.YtooiagkfhhfojaaDoor
open Go Go.ChangeShapes Go.WideShapes Go.ChangeAt Go.RowKit
theorem Tryd.own : ownKnob Tryd.prog.godebug = none := by kernel_rfl
theorem Tryd.laidOut : laidOutB Tryd.prog = true := by kernel_rfl
theorem conT88 : ConT Tryd.prog 88 3 23 64 := ⟨⟨_, Tryd.underlying88, rfl⟩, by kernel_rfl, Tryd.underlying3, by kernel_rfl, Tryd.underlying23, by kernel_rfl, Tryd.underlying64, by kernel_rfl, of_decide_eq_true (by kernel_rfl), of_decide_eq_true (by kernel_rfl), of_decide_eq_true (by kernel_rfl)⟩
theorem modT39 : ModT Tryd.prog 39 37 88 3 23 64 := ⟨⟨_, Tryd.underlying39, rfl⟩, by kernel_rfl, Tryd.underlying37, by kernel_rfl, conT88⟩
end Go.Proofs.YtooiagkfhhfojaaDoor
