/- Plain law: literals over values, and the number of solutions that make literals true. No program in sight. Conditions: none. -/
import Derived.Test.YtojinjdobjodaaaGreatPureV
import Derived.Test.YtojinjdobjodaaaGreatPureZ
import Derived.Test.YtojinjdobjodaaaGreatLit
namespace Go.Proofs.YtojinjdobjodaaaGreat
open Go
set_option linter.unusedSimpArgs false
set_option linter.unusedVariables false
def truesI (l : Lit) : Int := if l.neg = true then iandNot 63 (ishl 1 l.val) else ishl 1 l.val
theorem trues_T {l : Lit} (h : l.neg = true) : iandNot 63 (ishl 1 l.val) = truesI l := by unfold truesI; rw [if_pos h]
theorem trues_F {l : Lit} (h : l.neg = false) : ishl 1 l.val = truesI l := by unfold truesI; rw [if_neg (by rw [h]; simp)]
def litOkB (n : Int) (l : Lit) : Bool := withinB l.var 0 (n - 1) && withinB l.val 0 5
def litLt (a b : Lit) : Bool := if a.var ≠ b.var then decide (a.var < b.var) else if a.val ≠ b.val then decide (a.val < b.val) else !a.neg && b.neg
theorem litLt_1 {a b : Lit} (h : a.var ≠ b.var) : decide (a.var < b.var) = litLt a b := by unfold litLt; rw [if_pos h]
theorem litLt_2 {a b : Lit} (h0 : ¬ a.var ≠ b.var) (h : a.val ≠ b.val) : decide (a.val < b.val) = litLt a b := by unfold litLt; rw [if_neg h0, if_pos h]
theorem litLt_3 {a b : Lit} (h0 : ¬ a.var ≠ b.var) (h : ¬ a.val ≠ b.val) : (!a.neg && b.neg) = litLt a b := by unfold litLt; rw [if_neg h0, if_neg h]
def orI : List Int → Int
  | [] => 0
  | x :: r => if x ≠ 0 then x else orI r
theorem orI_at : ∀ {xs : List Int} {k : Nat}, k < xs.length → (xs.take k).all (fun x => decide (x = 0)) = true → xs.getD k 0 ≠ 0 → xs.getD k 0 = orI xs
  | [], k, h, _, _ => absurd h (Nat.not_lt_zero k)
  | x :: r, 0, _, _, h => by
    have h : x ≠ 0 := h
    unfold orI; rw [if_pos h]; rfl
  | x :: r, k + 1, hk, h1, h => by
    simp only [List.take_succ_cons, List.all_cons, Bool.and_eq_true, decide_eq_true_eq] at h1
    unfold orI; rw [if_neg (by simp [h1.1])]
    exact orI_at (by simpa using hk) h1.2 h
theorem orI_end : ∀ {xs : List Int}, xs.all (fun x => decide (x = 0)) = true → (0 : Int) = orI xs
  | [], _ => rfl
  | x :: r, h => by
    simp only [List.all_cons, Bool.and_eq_true, decide_eq_true_eq] at h
    unfold orI; rw [if_neg (by simp [h.1])]; exact orI_end h.2
theorem all0_step {xs : List Int} {k : Nat} (hk : k < xs.length) (h : (xs.take k).all (fun x => decide (x = 0)) = true) (c : ¬ xs.getD k 0 ≠ 0) : (xs.take (k + 1)).all (fun x => decide (x = 0)) = true := by
  rw [take_succ_getD 0 hk, List.all_append, h]; simpa using c
theorem all0_end {xs : List Int} {k : Nat} (hk : k = xs.length) (h : (xs.take k).all (fun x => decide (x = 0)) = true) : (0 : Int) = orI xs := orI_end (by rw [hk, List.take_length] at h; exact h)
def litCmp (a b : Lit) : Int := orI [cmpI a.var b.var, cmpI a.val b.val, cmpI (if a.neg = true then 1 else 0) (if b.neg = true then 1 else 0)]
theorem litCmp_lt (a b : Lit) : decide (0 ≤ litCmp a b) = !(litLt a b) := by
  obtain ⟨a1, a2, a3⟩ := a; obtain ⟨b1, b2, b3⟩ := b
  simp only [litCmp, litLt, orI, cmpI]
  by_cases h1 : a1 < b1
  · simp [h1, show a1 ≠ b1 by omega]
  · by_cases h2 : b1 < a1
    · simp [h1, h2, show a1 ≠ b1 by omega]
    · have e : a1 = b1 := by omega
      subst e
      by_cases h3 : a2 < b2
      · simp [h3, show a2 ≠ b2 by omega]
      · by_cases h4 : b2 < a2
        · simp [h3, h4, show a2 ≠ b2 by omega]
        · have e : a2 = b2 := by omega
          subst e
          cases a3 <;> cases b3 <;> simp
def clAt (n : Int) (c : List Lit) (i : Nat) : Bool := litOkB n (c.getD i nilLit) && !(decide ((0 : Int) < (i : Int)) && !(litLt (c.getD ((i : Int) - 1).toNat nilLit) (c.getD i nilLit)))
def clTo (n : Int) (c : List Lit) (k : Nat) : Bool := (List.range k).all (clAt n c)
def clS (n : Int) (c : List Lit) : Bool := clTo n c c.length && decide ((c.length : Int) ≤ 12)
def clI (n : Int) (c : List Lit) : Bool := clTo n c c.length && (withinB n 1 4 && decide ((c.length : Int) ≤ 12))
theorem cl_b {A B p q : Bool} (h : (((!A) || !B) || (p && !q)) = false) : (A && B && !(p && !q)) = true := by revert h; cases A <;> cases B <;> cases p <;> cases q <;> simp
theorem cl_b' {A B p q : Bool} (h : (((!A) || !B) || (p && !q)) = true) : (A && B && !(p && !q)) = false := by revert h; cases A <;> cases B <;> cases p <;> cases q <;> simp
theorem cl_step {n : Int} {c : List Lit} {k : Nat} (hi : clTo n c k = true) (h : ((!(withinB (c.getD k nilLit).var 0 (n - 1)) || !(withinB (c.getD k nilLit).val 0 5)) || (decide ((0 : Int) < (k : Int)) && !(litLt (c.getD ((k : Int) - 1).toNat nilLit) (c.getD k nilLit)))) = false) : clTo n c (k + 1) = true := by
  unfold clTo at *
  rw [List.range_succ, List.all_append, hi]
  simp only [List.all_cons, List.all_nil, Bool.and_true, Bool.true_and]
  exact cl_b h
theorem cl_stepI {n : Int} {c : List Lit} {k : Nat} (hi : clTo n c k = true) (h : ((!(withinB (c.getD k nilLit).var 0 (n - 1)) || !(withinB (c.getD k nilLit).val 0 5)) || (decide ((0 : Int) < (k : Int)) && decide (0 ≤ litCmp (c.getD ((k : Int) - 1).toNat nilLit) (c.getD k nilLit)))) = false) : clTo n c (k + 1) = true := cl_step hi (by rw [litCmp_lt] at h; exact h)
theorem cl_at {n : Int} {c : List Lit} {k : Nat} (hk : k < c.length) (h : ((!(withinB (c.getD k nilLit).var 0 (n - 1)) || !(withinB (c.getD k nilLit).val 0 5)) || (decide ((0 : Int) < (k : Int)) && !(litLt (c.getD ((k : Int) - 1).toNat nilLit) (c.getD k nilLit)))) = true) : clTo n c c.length = false := by
  unfold clTo
  rw [List.all_eq_false]
  exact ⟨k, List.mem_range.2 hk, by rw [show clAt n c k = false from cl_b' h]; simp⟩
theorem cl_noS {n : Int} {c : List Lit} {k : Nat} (hk : k < c.length) (h : ((!(withinB (c.getD k nilLit).var 0 (n - 1)) || !(withinB (c.getD k nilLit).val 0 5)) || (decide ((0 : Int) < (k : Int)) && !(litLt (c.getD ((k : Int) - 1).toNat nilLit) (c.getD k nilLit)))) = true) : false = clS n c := by
  unfold clS; rw [cl_at hk h]; rfl
theorem cl_noI {n : Int} {c : List Lit} {k : Nat} (hk : k < c.length) (h : ((!(withinB (c.getD k nilLit).var 0 (n - 1)) || !(withinB (c.getD k nilLit).val 0 5)) || (decide ((0 : Int) < (k : Int)) && decide (0 ≤ litCmp (c.getD ((k : Int) - 1).toNat nilLit) (c.getD k nilLit)))) = true) : false = clI n c := by
  rw [litCmp_lt] at h
  unfold clI; rw [cl_at hk h]; rfl
theorem cl_yesS {n : Int} {c : List Lit} {k : Nat} (hk : k = c.length) (hi : clTo n c k = true) : decide ((c.length : Int) ≤ 12) = clS n c := by unfold clS; rw [← hk, hi]; rfl
theorem cl_yesI {n : Int} {c : List Lit} {k : Nat} (hk : k = c.length) (hi : clTo n c k = true) : (withinB n 1 4 && decide ((c.length : Int) ≤ 12)) = clI n c := by unfold clI; rw [← hk, hi]; rfl
/-- The literals are in order, over the model's variables. -/
def litsB (m : Mod) (c : List Lit) : Bool := validModB m && clI (m.doms.length : Int) c
theorem litsB_S (m : Mod) (c : List Lit) : (validModB m && clS (m.doms.length : Int) c) = litsB m c := by
  unfold litsB
  cases h : validModB m with
  | false => rfl
  | true =>
    have hM : MOk m := ⟨h⟩
    have hn := hM.n
    unfold clS clI
    rw [show withinB (m.doms.length : Int) 1 4 = true by unfold withinB; simp; omega]
    simp
structure LOk (m : Mod) (c : List Lit) : Prop where
  hM : MOk m
  h : ∀ l ∈ c, (0 ≤ l.var ∧ l.var < (m.doms.length : Int)) ∧ (0 ≤ l.val ∧ l.val ≤ 5)
  n : c.length ≤ 12
theorem lits_ok {m : Mod} {c : List Lit} (h : litsB m c = true) : LOk m c := by
  unfold litsB clI at h
  simp only [Bool.and_eq_true, decide_eq_true_eq] at h
  refine ⟨⟨h.1⟩, fun l hl => ?_, by omega⟩
  obtain ⟨i, hi, rfl⟩ := List.getElem_of_mem hl
  have h1 := List.all_eq_true.1 h.2.1 i (List.mem_range.2 hi)
  unfold clAt litOkB at h1
  simp only [Bool.and_eq_true, withinB_iff] at h1
  rw [List.getD_eq_getElem?_getD, List.getElem?_eq_getElem hi, Option.getD_some] at h1
  omega
theorem eqLit_iff (a b : Lit) : decide (a = b) = (decide (a.var = b.var) && (decide (a.val = b.val) && decide (a.neg = b.neg))) := by
  rw [Bool.eq_iff_iff]; simp [lit_ext]
theorem litOk_at {n : Int} {c : List Lit} {i : Nat} (h : clTo n c c.length = true) (hi : i < c.length) : litOkB n (c.getD i nilLit) = true := by
  have h1 := List.all_eq_true.1 h i (List.mem_range.2 hi)
  unfold clAt at h1; simp only [Bool.and_eq_true] at h1; exact h1.1
end Go.Proofs.YtojinjdobjodaaaGreat
