/- Ranks of solutions: the plain functions. No program in sight. Conditions: none. -/
import Derived.Test.YtaidejjdmkghoaaGreatPureS
namespace Go.Proofs.YtaidejjdmkghoaaGreat
open Go
set_option linter.unusedSimpArgs false
set_option linter.unusedVariables false
theorem vals_of {x : List Int} (h : allInB x 0 5 = true) : Vals x := fun v hv => by
  simp only [allInB, List.all_eq_true] at h
  exact withinB_iff.1 (h v hv)
theorem allIn_of {x : List Int} (h : Vals x) : allInB x 0 5 = true := by
  simp only [allInB, List.all_eq_true]; exact fun v hv => withinB_iff.2 (h v hv)
def isSolT (m : Mod) (x : List Int) : Bool := (validModB m && (decide ((x.length : Int) = (m.doms.length : Int)) && allInB x 0 5)) && isSolB m x
def inSTo (m : Mod) (x : List Int) (k : Nat) : Bool := (List.range k).all (fun i => withinB (x.getD i 0) 0 5 && hasB (m.doms.getD i 0) (x.getD i 0))
def isSolS (m : Mod) (x : List Int) : Bool := inSTo m x x.length && metB m x
def isSolU (m : Mod) (x : List Int) : Bool := (validModB m && decide ((x.length : Int) = (m.doms.length : Int))) && isSolS m x
def rankI (m : Mod) (x : List Int) : Int := if isSolT m x = true then indexBy (fun y => decide (x = y)) (sols m) else -1
def rankS (m : Mod) (x : List Int) : Int := if isSolU m x = true then indexBy (fun y => decide (y = x)) (sols m) else -1
theorem sols_few {m : Mod} (h : MOk m) : (sols m).length ≤ 1296 := solT_few h.n.2
def solAt (m : Mod) (r : Int) : List Int × Bool := if validModB m = true ∧ withinB r 0 (((sols m).length : Int) - 1) = true then ((sols m).getD r.toNat [], true) else ([], false)
section at_
variable {m : Mod} {r : Int}
end at_
theorem sols_len {m : Mod} {x : List Int} (h : x ∈ sols m) : x.length = m.doms.length := (mem_tupL.1 (List.mem_filter.1 (show x ∈ (tupL m.doms).filter (metB m) from h)).1).1
theorem sols_vals {m : Mod} {x : List Int} (h : x ∈ sols m) : Vals x := (mem_tupL.1 (List.mem_filter.1 (show x ∈ (tupL m.doms).filter (metB m) from h)).1).vals
end Go.Proofs.YtaidejjdmkghoaaGreat
