/- Plain law: no solution is farther. No program in sight. Conditions: none. -/
import Derived.Test.YtndggikpobghkaaGreatPureV
import Derived.Test.YtndggikpobghkaaGreatPureJ
namespace Go.Proofs.YtndggikpobghkaaGreat
open Go
set_option linter.unusedSimpArgs false
set_option linter.unusedVariables false
theorem inR_no {x : List Int} {k : Nat} (hk : k < x.length) (c : (decide (x.getD k 0 < 0) || decide ((5 : Int) < x.getD k 0)) = true) : false = allInB x 0 5 := by
  simp only [Bool.or_eq_true, decide_eq_true_eq] at c
  cases h : allInB x 0 5 with
  | false => rfl
  | true => rw [allInB_iff] at h; have := h _ (getD_mem (d := 0) hk); omega
theorem inR_step {x : List Int} {k : Nat} (hk : k < x.length) (h : allInB (x.take k) 0 5 = true) (c : (decide (x.getD k 0 < 0) || decide ((5 : Int) < x.getD k 0)) = false) : allInB (x.take (k + 1)) 0 5 = true := by
  simp only [Bool.or_eq_false_iff, decide_eq_false_iff_not] at c
  rw [allInB_iff] at h ⊢
  rw [take_succ_getD 0 hk]
  intro v hv
  rcases List.mem_append.1 hv with hv | hv
  · exact h v hv
  · rw [List.mem_singleton.1 hv]; omega
theorem inR_yes {x : List Int} {k : Nat} (hk : x.length ≤ k) (h : allInB (x.take k) 0 5 = true) : true = allInB x 0 5 := by rw [List.take_of_length_le hk] at h; exact h.symm
theorem far_cond {m : Mod} {x : List Int} {a b : Bool} (h : ((((a || b) || !(validModB m)) || decide ((x.length : Int) ≠ (m.doms.length : Int))) || !(allInB x 0 5)) = false) : (!(validModB m) || !(decide ((x.length : Int) = (m.doms.length : Int)) && allInB x 0 5)) = false := by
  simp only [Bool.or_eq_false_iff, Bool.not_eq_false', decide_eq_false_iff_not, Decidable.not_not] at h
  obtain ⟨⟨⟨_, h1⟩, h2⟩, h3⟩ := h
  rw [h1, h2, h3]; simp
theorem far_empty {m : Mod} {x : List Int} (hc : (!(validModB m) || !(decide ((x.length : Int) = (m.doms.length : Int)) && allInB x 0 5)) = false) (h : (!((farI m x).2)) = true) : decide (((solL m).length : Int) = 0) = true := by
  rw [far_yes hc] at h
  unfold bestI at h
  have h1 : (sols m).length = 0 := by simpa using h
  have hv := (far_ok hc).1.v
  unfold solL
  rw [if_pos hv]
  have : sols m = [] := List.eq_nil_of_length_eq_zero h1
  rw [this]; rfl
theorem far_in {m : Mod} {x : List Int} (hc : (!(validModB m) || !(decide ((x.length : Int) = (m.doms.length : Int)) && allInB x 0 5)) = false) (h : (!((farI m x).2)) = false) : (farI m x).1 ∈ sols m ∧ ∀ y ∈ sols m, distI x y ≤ distI x (farI m x).1 := by
  rw [far_yes hc] at h ⊢
  have h1 := best_in (p := fun y => -(distI x y)) (xs := sols m) (by simpa using h)
  exact ⟨h1.1, fun y hy => by have := h1.2 y hy; omega⟩
theorem far_max {m : Mod} {x : List Int} {k : Nat} (hc : (!(validModB m) || !(decide ((x.length : Int) = (m.doms.length : Int)) && allInB x 0 5)) = false) (h : (!((farI m x).2)) = false) (hk : (k : Int) < ((solL m).length : Int)) : ¬ distI x (farI m x).1 < distI x ((solL m).getD k []) := by
  have := (far_in hc h).2 _ (solL_mem (getD_mem (d := []) (by omega : k < (solL m).length)))
  omega
theorem far_sol {m : Mod} {x : List Int} (hc : (!(validModB m) || !(decide ((x.length : Int) = (m.doms.length : Int)) && allInB x 0 5)) = false) (h : (!((farI m x).2)) = false) : isSolT m (farI m x).1 = true := sols_isSol (far_ok hc).1 (far_in hc h).1
theorem solLk_len {m : Mod} {k : Nat} (h : (k : Int) < ((solL m).length : Int)) : ((solL m).getD k []).length = m.doms.length := sols_len (solL_mem (getD_mem (by omega)))
end Go.Proofs.YtndggikpobghkaaGreat
