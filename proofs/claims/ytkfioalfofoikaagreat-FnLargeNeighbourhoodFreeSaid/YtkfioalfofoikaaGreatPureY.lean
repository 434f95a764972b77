/- Plain law: games: who can win, what is attained, the least value. No program in sight. Conditions: none. -/
import Derived.Test.YtkfioalfofoikaaGreatPureV
import Derived.Test.YtkfioalfofoikaaGreatPureJ
namespace Go.Proofs.YtkfioalfofoikaaGreat
open Go
set_option linter.unusedSimpArgs false
set_option linter.unusedVariables false
/-- The value of an objective, as the program gives it. -/
def objVal (obj x : List Int) : Int := if (((decide ((obj.length : Int) ≠ (x.length : Int)) || decide ((4 : Int) < (obj.length : Int))) || !(allInB obj (-9) 9)) || !(allInB x 0 5)) = true then 0 else dotTo obj x x.length
theorem objVal_sol {m : Mod} {obj x : List Int} (ho : objOkB m obj = true) (hx : x ∈ sols m) : objVal obj x = dotTo obj x m.doms.length := by
  have h1 := objok ho
  have h2 := sols_len hx
  unfold objVal
  have h3 : allInB obj (-9) 9 = true := by rw [allInB_iff]; exact h1.2.2
  have := h1.1.n
  rw [if_neg, h2]
  rw [h3, allIn_of (sols_vals hx), h2, h1.2.1]
  simp; omega
/-- The least value over the solutions. -/
def minI (m : Mod) (obj : List Int) : List Int × Bool := if objOkB m obj = true then bestI (fun x => dotTo obj x x.length) (sols m) else ([], false)
theorem min_no {m : Mod} {obj : List Int} (h : (!(objOkB m obj)) = true) : minI m obj = ([], false) := by unfold minI; rw [if_neg (by simpa using h)]
theorem min_yes {m : Mod} {obj : List Int} (h : objOkB m obj = true) : minI m obj = bestI (fun x => dotTo obj x x.length) (sols m) := by unfold minI; rw [if_pos h]
theorem objVal_0 {obj x : List Int} (h : (((decide ((obj.length : Int) ≠ (x.length : Int)) || decide ((4 : Int) < (obj.length : Int))) || !(allInB obj (-9) 9)) || !(allInB x 0 5)) = true) : (0 : Int) = objVal obj x := by unfold objVal; rw [if_pos h]
theorem objVal_1 {obj x : List Int} (h : (((decide ((obj.length : Int) ≠ (x.length : Int)) || decide ((4 : Int) < (obj.length : Int))) || !(allInB obj (-9) 9)) || !(allInB x 0 5)) = false) : dotTo obj x x.length = objVal obj x := by unfold objVal; rw [if_neg (by rw [h]; simp)]
theorem objVal_ok {obj x : List Int} (h : (((decide ((obj.length : Int) ≠ (x.length : Int)) || decide ((4 : Int) < (obj.length : Int))) || !(allInB obj (-9) 9)) || !(allInB x 0 5)) = false) : Coef obj ∧ Vals x ∧ x.length = obj.length ∧ x.length ≤ 4 := by
  simp only [Bool.or_eq_false_iff, decide_eq_false_iff_not, Bool.not_eq_false', Decidable.not_not] at h
  refine ⟨allInB_iff.1 h.1.2, vals_of h.2, by omega, by omega⟩
theorem obj_one {z : Int} (h : z ∈ [1, 0, -1, 2, -9, 9]) : -9 ≤ z ∧ z ≤ 9 := by simp at h; omega
end Go.Proofs.YtkfioalfofoikaaGreat
