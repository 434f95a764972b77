/- What the rows want of the program. Conditions: none. -/
import Derived.Test.YtojinjdobjodaaaGreatRow
import Derived.Test.YtojinjdobjodaaaGreatRlrw
namespace Go.Proofs.YtojinjdobjodaaaGreat
open Go Go.ChangeShapes Go.WideShapes Go.ChangeAt Go.RowKit
theorem Tryz.own : ownKnob Tryz.prog.godebug = none := by kernel_rfl
theorem Tryz.laidOut : laidOutB Tryz.prog = true := by kernel_rfl
theorem conT122 : ConT Tryz.prog 122 3 23 40 := ⟨⟨_, Tryz.underlying122, rfl⟩, by kernel_rfl, Tryz.underlying3, by kernel_rfl, Tryz.underlying23, by kernel_rfl, Tryz.underlying40, by kernel_rfl, of_decide_eq_true (by kernel_rfl), of_decide_eq_true (by kernel_rfl), of_decide_eq_true (by kernel_rfl)⟩
theorem modT45 : ModT Tryz.prog 45 43 122 3 23 40 := ⟨⟨_, Tryz.underlying45, rfl⟩, by kernel_rfl, Tryz.underlying43, by kernel_rfl, conT122⟩
theorem litT128 : LitT Tryz.prog 128 3 4 := ⟨⟨_, Tryz.underlying128, rfl⟩, by kernel_rfl, Tryz.underlying3, by kernel_rfl, Tryz.underlying4, by kernel_rfl, of_decide_eq_true (by kernel_rfl)⟩
end Go.Proofs.YtojinjdobjodaaaGreat
