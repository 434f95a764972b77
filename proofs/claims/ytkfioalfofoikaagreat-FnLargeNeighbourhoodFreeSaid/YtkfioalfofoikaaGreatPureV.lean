/- Laws of ranks and of quantified formulas over all solutions. No program in sight. Conditions: none. -/
import Derived.Test.YtkfioalfofoikaaGreatPureR
namespace Go.Proofs.YtkfioalfofoikaaGreat
open Go
set_option linter.unusedSimpArgs false
set_option linter.unusedVariables false
theorem sols_mem {m : Mod} {x : List Int} : x ∈ sols m ↔ Box m.doms x ∧ metB m x = true := by
  unfold sols solT; rw [List.mem_filter, mem_tupL]
theorem sols_isSol {m : Mod} (hM : MOk m) {x : List Int} (h : x ∈ sols m) : isSolT m x = true := by
  obtain ⟨hb, hm⟩ := sols_mem.1 h
  have h1 := hb.1
  unfold isSolT isSolB
  rw [hM.v, hm, allIn_of hb.vals, decide_eq_true (by omega)]
  have : inDomB m x = true := List.all_eq_true.2 fun i hi => (mem_valsI.1 (hb.2 i (by have := List.mem_range.1 hi; omega))).2
  rw [this]; rfl
/-! Formulas with one quantifier for all. -/
end Go.Proofs.YtkfioalfofoikaaGreat
