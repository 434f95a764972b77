/- Plain functions of the reference on lists and models. No program in sight. Conditions: none. -/
import Derived.Test.YtcdemjjgmnbkfaaPure
namespace Go.Proofs.Ytcdemjjgmnbkfaa
open Go
set_option linter.unusedSimpArgs false
set_option linter.unusedVariables false
theorem not_mem_k2 {xs : List Int} {k j : Nat} (h : k ≤ j) (ha : (xs.take j).all (fun y => decide (xs.getD k 0 ≠ y)) = true) : xs.getD k 0 ∉ xs.take k := fun hm => by
  rw [List.all_eq_true] at ha
  have := ha _ ((List.take_subset_take_left xs h) hm)
  simp at this
theorem mem_take_of {xs : List Int} {k i : Nat} (h : k < i) (hi : i < xs.length) (e : xs.getD i 0 = xs.getD k 0) : xs.getD i 0 ∈ xs.take i := by
  rw [e, List.getD_eq_getElem?_getD, List.getElem?_eq_getElem (by omega)]
  simp only [Option.getD_some]
  rw [List.mem_take_iff_getElem]; exact ⟨k, by omega, rfl⟩
theorem rowBad {a n : Int} {b : Bool} (h : (decide (a ≠ n) || !b) = true) : (decide (a = n) && b) = false := by simp at h; cases b <;> simp_all
theorem rowGood {a n : Int} {b : Bool} (h : ¬ a ≠ n ∧ b = true) : (decide (a = n) && b) = true := by simp at h; simp [h]
def validConS (c : Con) (n : Int) : Bool := withinB c.vars.length 1 n && allInB c.vars 0 (n - 1) && distinctB c.vars && fitsB c
theorem conS_no {c : Con} {n : Int} (h : (!withinB c.vars.length 1 n || !allInB c.vars 0 (n - 1) || !distinctB c.vars) = true) : false = validConS c n := by
  simp only [validConS]; revert h; cases withinB (c.vars.length : Int) 1 n <;> cases allInB c.vars 0 (n - 1) <;> cases distinctB c.vars <;> simp
theorem conS_yes {c : Con} {n : Int} {b : Bool} (h : (!withinB c.vars.length 1 n || !allInB c.vars 0 (n - 1) || !distinctB c.vars) = false) (hb : b = fitsB c) : b = validConS c n := by
  simp only [validConS, hb]; revert h; cases withinB (c.vars.length : Int) 1 n <;> cases allInB c.vars 0 (n - 1) <;> cases distinctB c.vars <;> simp
theorem varAtBad {a b : Bool} (h : (!a || b) = true) : (a && !b) = false := by revert h; cases a <;> cases b <;> simp
theorem varAtGood {a b : Bool} (h : (!a || b) = false) : (a && !b) = true := by revert h; cases a <;> cases b <;> simp
theorem validModB_d {m : Mod} {k : Nat} (hk : k < m.doms.length) (h : validDomB (m.doms.getD k 0) = false) : false = validModB m := by
  have : allInB m.doms 0 63 = false := all_false (d := 0) hk h
  simp [validModB, domainsOkB, this]
theorem validModB_c {m : Mod} {k : Nat} (hk : k < m.cons.length) (h : validConS (m.cons.getD k nilCon) m.doms.length = false) : false = validModB m := by
  have : (m.cons.all fun c => validConB c m.doms.length) = false := all_false (d := nilCon) hk (by
    simp only [validConS] at h; simp only [validConB, Bool.and_assoc] at h ⊢; rw [h]; simp)
  simp only [validModB, this, Bool.and_false]
theorem validModB_all {m : Mod} (h : m.doms.all validDomB = true) (hc : (m.cons.all fun c => validConS c m.doms.length) = true) :
    (withinB m.doms.length 1 4 && decide ((m.cons.length : Int) ≤ 6)) = validModB m := by
  have h' : allInB m.doms 0 63 = true := h
  simp only [validModB, domainsOkB, h', Bool.and_true]
  cases hw : withinB (m.doms.length : Int) 1 4 with
  | false => simp
  | true =>
    have : (m.cons.all fun c => validConB c m.doms.length) = true := by
      rw [← hc]; congr 1; funext c; simp only [validConB, validConS, hw, Bool.true_and]
    simp [this]
theorem contains_hit {xs : List Int} {n : Int} {k : Nat} (hk : k < xs.length) (h : xs.getD k 0 = n) : true = xs.contains n := by
  symm; rw [List.contains_iff_mem]; exact h ▸ getD_mem hk
theorem contains_none {xs : List Int} {n : Int} {k : Nat} (hk : ¬ (k : Int) < (xs.length : Int)) (h : (xs.take k).any (fun y => decide (y = n)) = false) : false = xs.contains n := by
  rw [List.take_of_length_le (by omega), List.any_eq_false] at h
  symm; rw [← Bool.not_eq_true, List.contains_iff_mem]; intro hm
  have := h n hm; simp at this
/-- Ascending indexes below n: element i alone. -/
def varSetAt (n : Nat) (vars : List Int) (i : Nat) : Bool := withinB (vars.getD i 0) 0 ((n : Int) - 1) && !(decide ((0 : Int) < i) && decide (vars.getD i 0 ≤ vars.getD ((i : Int) - 1).toNat 0))
def varSetTo (n : Nat) (vars : List Int) (k : Nat) : Bool := (List.range k).all (varSetAt n vars)
def varSetS (n : Nat) (vars : List Int) : Bool := varSetTo n vars vars.length
theorem varSet_step {n : Nat} {vars : List Int} {k : Nat} (_h : k < vars.length) (h1 : varSetTo n vars k = true) (h2 : varSetAt n vars k = true) : varSetTo n vars (k + 1) = true := by
  simp only [varSetTo, List.range_succ, List.all_append] at *; simp [h1, h2]
theorem varSet_no {n : Nat} {vars : List Int} {k : Nat} (h : k < vars.length) (h2 : varSetAt n vars k = false) : false = varSetS n vars := by
  symm; simp only [varSetS, varSetTo, List.all_eq_false]; exact ⟨k, List.mem_range.2 h, by simp [h2]⟩
theorem varSet_yes {n : Nat} {vars : List Int} {k : Nat} (h : k = vars.length) (h1 : varSetTo n vars k = true) : true = varSetS n vars := by
  subst h; exact h1.symm
/-- Two different variables occur together in a constraint. -/
def joins (u v : Int) (c : Con) : Bool := decide (u ≠ v) && c.vars.contains u && c.vars.contains v
def adjB (cons : List Con) (u v : Int) : Bool := cons.any (joins u v)
end Go.Proofs.Ytcdemjjgmnbkfaa
