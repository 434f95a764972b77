/- Laws of ranks and of quantified formulas over all solutions. No program in sight. Conditions: none. -/
import Derived.Test.YtaidejjdmkghoaaGreatPureR
namespace Go.Proofs.YtaidejjdmkghoaaGreat
open Go
set_option linter.unusedSimpArgs false
set_option linter.unusedVariables false
theorem sols_mem {m : Mod} {x : List Int} : x ∈ sols m ↔ Box m.doms x ∧ metB m x = true := by
  unfold sols solT; rw [List.mem_filter, mem_tupL]
theorem sols_isSol {m : Mod} (hM : MOk m) {x : List Int} (h : x ∈ sols m) : isSolT m x = true := by
  obtain ⟨hb, hm⟩ := sols_mem.1 h
  have h1 := hb.1
  unfold isSolT isSolB
  rw [hM.v, hm, allIn_of hb.vals, decide_eq_true (by omega)]
  have : inDomB m x = true := List.all_eq_true.2 fun i hi => (mem_valsI.1 (hb.2 i (by have := List.mem_range.1 hi; omega))).2
  rw [this]; rfl
def cntI (m : Mod) : Int := if validModB m = true then ((sols m).length : Int) else -1
/-! Formulas with one quantifier for all. -/
def prodTo (ds : List Int) : Nat → Int
  | 0 => 1
  | k + 1 => prodTo ds k * popI (ds.getD k 0)
/-- All solutions, if they are few. -/
def solL (m : Mod) : List (List Int) := if validModB m = true then (sols m).take 20 else []
theorem solL_no {m : Mod} (h : (!(validModB m)) = true) : solL m = [] := by unfold solL; rw [if_neg (by simpa using h)]
theorem solL_nw {m : Mod} (h : (!(validModB m) || !(withinB 20 0 20)) = true) : solL m = [] := solL_no (by revert h; cases validModB m <;> simp [withinB])
theorem solL_yes {m : Mod} (h : validModB m = true) : (sols m).take (Int.toNat (min 20 ((sols m).length : Int))) = solL m := by
  unfold solL; rw [if_pos h]
  by_cases h1 : (sols m).length ≤ 20
  · rw [List.take_of_length_le h1, List.take_of_length_le (by omega)]
  · congr 1; omega
theorem solL_mem {m : Mod} {x : List Int} (h : x ∈ solL m) : x ∈ sols m := by
  unfold solL at h
  split at h
  · exact List.mem_of_mem_take h
  · cases h
theorem solLk_len {m : Mod} {k : Nat} (h : (k : Int) < ((solL m).length : Int)) : ((solL m).getD k []).length = m.doms.length := sols_len (solL_mem (getD_mem (by omega)))
end Go.Proofs.YtaidejjdmkghoaaGreat
