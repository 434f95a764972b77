/- The best of a list, and distances. No program in sight. Conditions: none. -/
import Derived.Test.YtaidejjdmkghoaaGreatPureR
namespace Go.Proofs.YtaidejjdmkghoaaGreat
open Go
set_option linter.unusedSimpArgs false
set_option linter.unusedVariables false
/-- The first of the least, so far, and its cost. -/
def bestTo (p : List Int → Int) (xs : List (List Int)) : Nat → List Int × Int
  | 0 => ([], 0)
  | k + 1 => if (decide (k = 0) || decide (p (xs.getD k []) < (bestTo p xs k).2)) = true then (xs.getD k [], p (xs.getD k [])) else bestTo p xs k
def bestI (p : List Int → Int) (xs : List (List Int)) : List Int × Bool := ((bestTo p xs xs.length).1, decide (xs.length ≠ 0))
/-- Its index, as the reference keeps it. -/
def argTo (p : List Int → Int) (xs : List (List Int)) : Nat → Int
  | 0 => -1
  | k + 1 => if (decide (argTo p xs k < 0) || decide (p (xs.getD k []) < p (xs.getD (argTo p xs k).toNat []))) = true then (k : Int) else argTo p xs k
/-! Distances. -/
def distTo (x y : List Int) : Nat → Int
  | 0 => 0
  | k + 1 => distTo x y k + (if x.getD k 0 ≠ y.getD k 0 then 1 else 0)
def distI (x y : List Int) : Int := distTo x y x.length
/-- The farthest solution. -/
def farI (m : Mod) (x : List Int) : List Int × Bool := if (validModB m && (decide ((x.length : Int) = (m.doms.length : Int)) && allInB x 0 5)) = true then bestI (fun y => -(distI x y)) (sols m) else ([], false)
end Go.Proofs.YtaidejjdmkghoaaGreat
