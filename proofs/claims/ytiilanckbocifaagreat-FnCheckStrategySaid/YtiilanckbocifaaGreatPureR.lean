/- Ranks of solutions: the plain functions. No program in sight. Conditions: none. -/
import Derived.Test.YtiilanckbocifaaGreatPureS
namespace Go.Proofs.YtiilanckbocifaaGreat
open Go
set_option linter.unusedSimpArgs false
set_option linter.unusedVariables false
theorem vals_of {x : List Int} (h : allInB x 0 5 = true) : Vals x := fun v hv => by
  simp only [allInB, List.all_eq_true] at h
  exact withinB_iff.1 (h v hv)
theorem allIn_of {x : List Int} (h : Vals x) : allInB x 0 5 = true := by
  simp only [allInB, List.all_eq_true]; exact fun v hv => withinB_iff.2 (h v hv)
def isSolT (m : Mod) (x : List Int) : Bool := (validModB m && (decide ((x.length : Int) = (m.doms.length : Int)) && allInB x 0 5)) && isSolB m x
section at_
variable {m : Mod} {r : Int}
end at_
end Go.Proofs.YtiilanckbocifaaGreat
