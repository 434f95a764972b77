/- The best of a list, and distances. No program in sight. Conditions: none. -/
import Derived.Test.YtkfioalfofoikaaGreatPureR
namespace Go.Proofs.YtkfioalfofoikaaGreat
open Go
set_option linter.unusedSimpArgs false
set_option linter.unusedVariables false
/-- The first of the least, so far, and its cost. -/
def bestTo (p : List Int → Int) (xs : List (List Int)) : Nat → List Int × Int
  | 0 => ([], 0)
  | k + 1 => if (decide (k = 0) || decide (p (xs.getD k []) < (bestTo p xs k).2)) = true then (xs.getD k [], p (xs.getD k [])) else bestTo p xs k
def bestI (p : List Int → Int) (xs : List (List Int)) : List Int × Bool := ((bestTo p xs xs.length).1, decide (xs.length ≠ 0))
/-- Its index, as the reference keeps it. -/
def argTo (p : List Int → Int) (xs : List (List Int)) : Nat → Int
  | 0 => -1
  | k + 1 => if (decide (argTo p xs k < 0) || decide (p (xs.getD k []) < p (xs.getD (argTo p xs k).toNat []))) = true then (k : Int) else argTo p xs k
theorem arg_law (p : List Int → Int) (xs : List (List Int)) : ∀ k, (k = 0 ∧ argTo p xs k = -1) ∨ (0 < k ∧ 0 ≤ argTo p xs k ∧ argTo p xs k < (k : Int) ∧ bestTo p xs k = (xs.getD (argTo p xs k).toNat [], p (xs.getD (argTo p xs k).toNat [])))
  | 0 => .inl ⟨rfl, rfl⟩
  | k + 1 => by
    right
    rcases arg_law p xs k with ⟨rfl, h⟩ | ⟨h0, h1, h2, h3⟩
    · simp [argTo, bestTo]
    · have e1 : decide (argTo p xs k < 0) = false := decide_eq_false (by omega)
      have e2 : decide (k = 0) = false := decide_eq_false (by omega)
      refine ⟨by omega, ?_⟩
      rw [argTo, bestTo, e1, e2, h3]
      simp only [Bool.false_or, decide_eq_true_eq]
      by_cases h4 : p (xs.getD k []) < p (xs.getD (argTo p xs k).toNat [])
      · rw [if_pos h4, if_pos h4]; exact ⟨by omega, by omega, by simp⟩
      · rw [if_neg h4, if_neg h4]; exact ⟨h1, by omega, rfl⟩
theorem best_nil {p : List Int → Int} {xs : List (List Int)} (h : xs.length = 0) : bestI p xs = ([], false) := by
  unfold bestI; rw [h]; rfl
theorem best_arg {p : List Int → Int} {xs : List (List Int)} {a : Int} (e : a = argTo p xs xs.length) (h : ¬ a < 0) : bestI p xs = (xs.getD a.toNat [], true) := by
  subst e
  rcases arg_law p xs xs.length with ⟨h0, h1⟩ | ⟨h0, h1, h2, h3⟩
  · omega
  · unfold bestI; rw [h3, decide_eq_true (by omega)]
theorem best_none {p : List Int → Int} {xs : List (List Int)} {a : Int} (e : a = argTo p xs xs.length) (h : a < 0) : bestI p xs = ([], false) := by
  subst e
  rcases arg_law p xs xs.length with ⟨h0, h1⟩ | ⟨h0, h1, h2, h3⟩
  · exact best_nil h0
  · omega
theorem arg_in {p : List Int → Int} {xs : List (List Int)} {a : Int} {k : Nat} (e : a = argTo p xs k) : -1 ≤ a ∧ a < (k : Int) := by
  subst e
  rcases arg_law p xs k with ⟨h0, h1⟩ | ⟨h0, h1, h2, h3⟩ <;> omega
/-! Distances. -/
theorem best_stepT {p : List Int → Int} {xs : List (List Int)} {k : Nat} {o : List Int} {s : Int} (e : (o, s) = bestTo p xs k) (h : k = 0 ∨ p (xs.getD k []) < s) : (xs.getD k [], p (xs.getD k [])) = bestTo p xs (k + 1) := by
  rw [bestTo, ← e, if_pos]
  simp only [Bool.or_eq_true, decide_eq_true_eq]; exact h
theorem best_stepF {p : List Int → Int} {xs : List (List Int)} {k : Nat} {o : List Int} {s : Int} (e : (o, s) = bestTo p xs k) (h : ¬ k = 0) (h2 : ¬ p (xs.getD k []) < s) : (o, s) = bestTo p xs (k + 1) := by
  rw [bestTo, ← e, if_neg]
  simp only [Bool.or_eq_true, decide_eq_true_eq]; exact fun h3 => h3.elim h h2
theorem bestTo_ne {p : List Int → Int} {xs : List (List Int)} {k : Nat} (hn : ∀ x ∈ xs, x ≠ []) (h0 : 0 < k) (hk : k ≤ xs.length) : (bestTo p xs k).1 ≠ [] := by
  rcases arg_law p xs k with ⟨h, _⟩ | ⟨_, h1, h2, h3⟩
  · omega
  · rw [h3]; exact hn _ (getD_mem (by omega))
theorem br_T {p : List Int → Int} {xs : List (List Int)} {k : Nat} {o : List Int} {s : Int} {bn : Bool} (e : (o, s) = bestTo p xs k) (hn : ∀ x ∈ xs, x ≠ []) (hk : k < xs.length) (nn : bn = true → o = []) (c : (bn || decide (p (xs.getD k []) < s)) = true) :
    (xs.getD k [], p (xs.getD k [])) = bestTo p xs (k + 1) := by
  refine best_stepT e ?_
  simp only [Bool.or_eq_true, decide_eq_true_eq] at c
  rcases c with c | c
  · left
    by_cases h0 : k = 0
    · exact h0
    · exact absurd (show (bestTo p xs k).1 = [] by rw [← e]; exact nn c) (bestTo_ne hn (by omega) (by omega))
  · exact .inr c
theorem br_F {p : List Int → Int} {xs : List (List Int)} {k : Nat} {o : List Int} {s : Int} {bn : Bool} (e : (o, s) = bestTo p xs k) (nx : k = 0 → bn = true) (c : (bn || decide (p (xs.getD k []) < s)) = false) :
    (o, s) = bestTo p xs (k + 1) := by
  simp only [Bool.or_eq_false_iff, decide_eq_false_iff_not] at c
  exact best_stepF e (fun h => by rw [nx h] at c; cases c.1) c.2
theorem best_b {p : List Int → Int} {xs : List (List Int)} {k : Nat} {o : List Int} {s : Int} {bn : Bool} (e : (o, s) = bestTo p xs k) (hk : k = xs.length) (hn : ∀ x ∈ xs, x ≠ []) (nn : bn = false → o = []) (nx : k = 0 → bn = false) : (bestI p xs).2 = bn := by
  subst hk
  unfold bestI
  simp only
  cases bn with
  | false =>
    by_cases h0 : xs.length = 0
    · simp [h0]
    · exact absurd (show (bestTo p xs xs.length).1 = [] by rw [← e]; exact nn rfl) (bestTo_ne hn (by omega) (by omega))
  | true =>
    apply decide_eq_true
    intro h0; cases nx h0
theorem best_o {p : List Int → Int} {xs : List (List Int)} {k : Nat} {o : List Int} {s : Int} (e : (o, s) = bestTo p xs k) (hk : k = xs.length) : (bestI p xs).1 = o := by
  subst hk; unfold bestI; rw [← e]
theorem arg_T {p : List Int → Int} {xs : List (List Int)} {k : Nat} {a : Int} (e : a = argTo p xs k) (c : a < 0 ∨ p (xs.getD k []) < p (xs.getD a.toNat [])) : (k : Int) = argTo p xs (k + 1) := by
  subst e; rw [argTo, if_pos]; simpa using c
theorem arg_F {p : List Int → Int} {xs : List (List Int)} {k : Nat} {a : Int} (e : a = argTo p xs k) (c : ¬ (a < 0 ∨ p (xs.getD k []) < p (xs.getD a.toNat []))) : a = argTo p xs (k + 1) := by
  subst e; rw [argTo, if_neg]; simpa using c
theorem arg_least {p : List Int → Int} {xs : List (List Int)} : ∀ (k j : Nat), j < k → p (xs.getD (argTo p xs k).toNat []) ≤ p (xs.getD j [])
  | 0, j, h => absurd h (Nat.not_lt_zero _)
  | k + 1, j, h => by
    have h1 := arg_law p xs k
    rw [argTo]
    split
    · rename_i c
      simp only [Bool.or_eq_true, decide_eq_true_eq] at c
      rw [show ((k : Nat) : Int).toNat = k by simp]
      rcases Nat.lt_succ_iff_lt_or_eq.1 h with hj | rfl
      · have h2 := arg_least (p := p) (xs := xs) k j hj
        rcases c with c | c
        · omega
        · omega
      · exact Int.le_refl _
    · rename_i c
      simp only [Bool.or_eq_true, decide_eq_true_eq, not_or] at c
      rcases Nat.lt_succ_iff_lt_or_eq.1 h with hj | rfl
      · exact arg_least (p := p) (xs := xs) k j hj
      · omega
theorem bestTo_len {p : List Int → Int} {xs : List (List Int)} {n : Nat} (hl : ∀ x ∈ xs, x.length ≤ n) {k : Nat} (hk : k ≤ xs.length) : (bestTo p xs k).1.length ≤ n := by
  rcases arg_law p xs k with ⟨h, _⟩ | ⟨_, h1, h2, h3⟩
  · subst h; exact Nat.zero_le _
  · rw [h3]; exact hl _ (getD_mem (by omega))
theorem best_cp {p : List Int → Int} {xs : List (List Int)} (hl : ∀ x ∈ xs, x.length ≤ 4) {o : List Int} {s : Int} {k : Nat} (e : (o, s) = bestTo p xs k) (hk : k ≤ xs.length) : o.length ≤ 1048576 := by
  have := bestTo_len hl hk (p := p)
  rw [← e] at this
  dsimp only at this
  omega
end Go.Proofs.YtkfioalfofoikaaGreat
