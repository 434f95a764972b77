/- What the rows want of the program. Conditions: none. -/
import Derived.Test.YtbbphbihgikmdaaGreatRow
import Derived.Test.YtbbphbihgikmdaaGreatRlit
namespace Go.Proofs.YtbbphbihgikmdaaGreat
open Go Go.ChangeShapes Go.WideShapes Go.ChangeAt Go.RowKit
theorem Tryz.own : ownKnob Tryz.prog.godebug = none := by kernel_rfl
theorem Tryz.laidOut : laidOutB Tryz.prog = true := by kernel_rfl
theorem conT99 : ConT Tryz.prog 99 3 22 54 := ⟨⟨_, Tryz.underlying99, rfl⟩, by kernel_rfl, Tryz.underlying3, by kernel_rfl, Tryz.underlying22, by kernel_rfl, Tryz.underlying54, by kernel_rfl, of_decide_eq_true (by kernel_rfl), of_decide_eq_true (by kernel_rfl), of_decide_eq_true (by kernel_rfl)⟩
theorem modT25 : ModT Tryz.prog 25 23 99 3 22 54 := ⟨⟨_, Tryz.underlying25, rfl⟩, by kernel_rfl, Tryz.underlying23, by kernel_rfl, conT99⟩
theorem litT72 : LitT Tryz.prog 72 3 4 := ⟨⟨_, Tryz.underlying72, rfl⟩, by kernel_rfl, Tryz.underlying3, by kernel_rfl, Tryz.underlying4, by kernel_rfl, of_decide_eq_true (by kernel_rfl)⟩
end Go.Proofs.YtbbphbihgikmdaaGreat
