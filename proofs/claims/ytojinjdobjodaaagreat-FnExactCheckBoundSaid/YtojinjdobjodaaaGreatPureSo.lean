/- Plain law: sorting by insertion gives the ascending list of the same elements. No program in sight. Conditions: none. -/
import Derived.Test.YtojinjdobjodaaaGreatPureZ
namespace Go.Proofs.YtojinjdobjodaaaGreat
open Go
set_option linter.unusedSimpArgs false
set_option linter.unusedVariables false
variable {A : Type}
structure TotC (c : A → A → Int) : Prop where
  asy : ∀ a b, c a b < 0 → ¬ c b a < 0
  tr : ∀ a b d, ¬ c b a < 0 → ¬ c d b < 0 → ¬ c d a < 0
def swapL (ys : List A) (j : Nat) (d : A) : List A := (ys.set (j + 1) (ys.getD j d)).set j (ys.getD (j + 1) d)
theorem swapL_at {ys : List A} {j : Nat} {d : A} (h : j + 1 < ys.length) (p : Nat) : (swapL ys j d).getD p d = if p = j then ys.getD (j + 1) d else if p = j + 1 then ys.getD j d else ys.getD p d := by
  unfold swapL
  simp only [List.getD_eq_getElem?_getD, List.getElem?_set, List.length_set]
  by_cases e1 : p = j
  · subst e1; simp [show p < ys.length by omega]
  · rw [if_neg (fun e => e1 e.symm), if_neg e1]
    by_cases e2 : p = j + 1
    · subst e2; simp [h]
    · rw [if_neg (fun e => e2 e.symm), if_neg e2]
theorem swapL_perm {ys : List A} {j : Nat} {d : A} (h : j + 1 < ys.length) : (swapL ys j d).Perm ys := by
  have e0 : ys = ys.take j ++ ys.getD j d :: ys.getD (j + 1) d :: ys.drop (j + 2) := by
    conv => lhs; rw [← List.take_append_drop j ys, List.drop_eq_getElem_cons (show j < ys.length by omega), List.drop_eq_getElem_cons h]
    simp [List.getD_eq_getElem?_getD, h, show j < ys.length by omega]
  have e1 : swapL ys j d = ys.take j ++ ys.getD (j + 1) d :: ys.getD j d :: ys.drop (j + 2) := by
    have hl : (ys.take j).length = j := by rw [List.length_take]; omega
    apply List.ext_getElem?
    intro p
    unfold swapL
    simp only [List.getElem?_set, List.length_set]
    by_cases e1 : j = p
    · subst e1; rw [if_pos rfl, if_pos (by omega), List.getElem?_append_right (by omega), hl]; simp
    · rw [if_neg e1]
      by_cases e2 : j + 1 = p
      · subst e2; rw [if_pos rfl, if_pos h, List.getElem?_append_right (by omega), hl]; simp [show j + 1 - j = 1 by omega]
      · rw [if_neg e2]
        by_cases e3 : p < j
        · rw [List.getElem?_append_left (by omega), List.getElem?_take, if_pos e3]
        · rw [List.getElem?_append_right (by omega), hl]
          obtain ⟨q, rfl⟩ : ∃ q, p = j + 2 + q := ⟨p - (j + 2), by omega⟩
          rw [show j + 2 + q - j = q + 2 from by omega]
          simp
  rw [e1]
  conv => rhs; rw [e0]
  exact List.Perm.append_left _ (List.Perm.swap _ _ _)
/-- Inside: what lies at the places up to i is ascending, but for the element at j, which may be too small. -/
structure InsA (c : A → A → Int) (d : A) (xs ys : List A) (i j : Nat) : Prop where
  perm : ys.Perm xs
  ji : j ≤ i
  srt : ∀ p q, p < q → q ≤ i → q ≠ j → ¬ c (ys.getD q d) (ys.getD p d) < 0
structure SrtA (c : A → A → Int) (d : A) (xs ys : List A) (i : Nat) : Prop where
  perm : ys.Perm xs
  srt : ∀ p q, p < q → q < i → ¬ c (ys.getD q d) (ys.getD p d) < 0
variable {c : A → A → Int} {d : A} {xs ys : List A} {i j : Nat}
theorem SrtA.zero (xs : List A) : SrtA c d xs xs 1 := ⟨.refl _, fun p q h1 h2 => by omega⟩
theorem SrtA.go (h : SrtA c d xs ys i) : InsA c d xs ys i i := ⟨h.perm, Nat.le_refl _, fun p q h1 h2 h3 => h.srt p q h1 (by omega)⟩
theorem InsA.step (hc : TotC c) (h : InsA c d xs ys i j) (hj : 0 < j) (hi : i < ys.length) (hlt : c (ys.getD j d) (ys.getD (j - 1) d) < 0) : InsA c d xs (swapL ys (j - 1) d) i (j - 1) := by
  obtain ⟨k, rfl⟩ : ∃ k, j = k + 1 := ⟨j - 1, by omega⟩
  rw [Nat.add_sub_cancel] at hlt ⊢
  have hji := h.ji
  have hk : k + 1 < ys.length := by omega
  refine ⟨(swapL_perm hk).trans h.perm, by omega, fun p q h1 h2 h3 => ?_⟩
  rw [swapL_at hk, swapL_at hk, if_neg h3]
  by_cases e1 : q = k + 1
  · subst e1
    rw [if_pos rfl]
    by_cases e2 : p = k
    · subst e2; rw [if_pos rfl]; exact hc.asy _ _ hlt
    · rw [if_neg e2, if_neg (by omega)]; exact h.srt p k (by omega) (by omega) (by omega)
  · rw [if_neg e1]
    by_cases e2 : p = k
    · subst e2; rw [if_pos rfl]; exact h.srt (p + 1) q (by omega) h2 e1
    · rw [if_neg e2]
      by_cases e3 : p = k + 1
      · subst e3; rw [if_pos rfl]; exact h.srt k q (by omega) h2 e1
      · rw [if_neg e3]; exact h.srt p q h1 h2 e1
theorem InsA.done0 (h : InsA c d xs ys i 0) : SrtA c d xs ys (i + 1) := ⟨h.perm, fun p q h1 h2 => h.srt p q h1 (by omega) (by omega)⟩
theorem InsA.done (hc : TotC c) (h : InsA c d xs ys i j) (hj : 0 < j) (hn : ¬ c (ys.getD j d) (ys.getD (j - 1) d) < 0) : SrtA c d xs ys (i + 1) := ⟨h.perm, fun p q h1 h2 => by
  by_cases e : q = j
  · subst e
    by_cases e2 : p = q - 1
    · subst e2; exact hn
    · exact hc.tr _ _ _ (h.srt p (q - 1) (by omega) (by have := h.ji; omega) (by omega)) hn
  · exact h.srt p q h1 (by omega) e⟩
/-- The ascending list. -/
def SrtL (c : A → A → Int) (d : A) (ys : List A) : Prop := ∀ p q, p < q → q < ys.length → ¬ c (ys.getD q d) (ys.getD p d) < 0
theorem SrtA.all (h : SrtA c d xs ys i) (hi : ys.length ≤ i) : SrtL c d ys := fun p q h1 h2 => h.srt p q h1 (by omega)
theorem SrtL.tail {y : A} (h : SrtL c d (y :: ys)) : SrtL c d ys := fun p q h1 h2 => by
  have := h (p + 1) (q + 1) (by omega) (by simpa using h2)
  simpa using this
end Go.Proofs.YtojinjdobjodaaaGreat
