/- Plain law: sums of distances, medians. No program in sight. Conditions: none. -/
import Derived.Test.YtbbphbihgikmdaaPureV
import Derived.Test.YtbbphbihgikmdaaPureJ
namespace Go.Proofs.Ytbbphbihgikmdaa
open Go
set_option linter.unusedSimpArgs false
set_option linter.unusedVariables false
theorem argTo_congr {p q : List Int → Int} {xs : List (List Int)} (h : ∀ x ∈ xs, ∀ y ∈ xs, (p x < p y ↔ q x < q y)) : ∀ k, k ≤ xs.length → argTo p xs k = argTo q xs k
  | 0, _ => rfl
  | k + 1, hk => by
    have e := argTo_congr h k (by omega)
    rw [argTo, argTo, e]
    rcases arg_law q xs k with ⟨_, h1⟩ | ⟨_, h1, h2, _⟩
    · rw [h1]; simp
    · have h3 := h (xs.getD k []) (getD_mem (by omega)) (xs.getD (argTo q xs k).toNat []) (getD_mem (by omega))
      have h4 : decide (p (xs.getD k []) < p (xs.getD (argTo q xs k).toNat [])) = decide (q (xs.getD k []) < q (xs.getD (argTo q xs k).toNat [])) := decide_eq_decide.2 h3
      rw [h4]
theorem best_congrO {p q : List Int → Int} {xs : List (List Int)} (h : ∀ x ∈ xs, ∀ y ∈ xs, (p x < p y ↔ q x < q y)) : bestI p xs = bestI q xs := by
  have e := argTo_congr h xs.length (Nat.le_refl _)
  rcases arg_law p xs xs.length with ⟨h0, h1⟩ | ⟨h0, h1, h2, h3⟩
  · rw [best_nil h0, best_nil h0]
  · rw [best_arg rfl (by omega), best_arg (p := q) rfl (by omega), e]
def sumI {A : Type} (f : A → Int) (xs : List A) : Int := (xs.map f).sum
theorem sumI_step {A : Type} {f : A → Int} {xs : List A} {k : Nat} {d : A} (h : k < xs.length) : sumI f (xs.take (k + 1)) = sumI f (xs.take k) + f (xs.getD k d) := by
  rw [take_succ_getD d h]; simp [sumI]
theorem sumI_in {A : Type} {f : A → Int} {n : Int} : ∀ {xs : List A}, (∀ x ∈ xs, 0 ≤ f x ∧ f x ≤ n) → 0 ≤ sumI f xs ∧ sumI f xs ≤ n * (xs.length : Int)
  | [], _ => by simp [sumI]
  | x :: xs, h => by
    have h1 := h x (.head _)
    have h2 := sumI_in (f := f) (n := n) (xs := xs) (fun y hy => h y (.tail _ hy))
    simp only [sumI, List.map_cons, List.sum_cons, List.length_cons] at h2 ⊢
    rw [show (n * ((xs.length + 1 : Nat) : Int)) = n * (xs.length : Int) + n by rw [Int.natCast_add, Int.mul_add]; simp]
    omega
theorem sumI_congr {A : Type} {f g : A → Int} : ∀ {xs : List A}, (∀ x ∈ xs, f x = g x) → sumI f xs = sumI g xs
  | [], _ => rfl
  | x :: xs, h => by
    simp only [sumI, List.map_cons, List.sum_cons]
    have h2 := sumI_congr (f := f) (g := g) (xs := xs) (fun y hy => h y (.tail _ hy))
    simp only [sumI] at h2
    rw [h x (.head _), h2]
theorem sumI_add {A : Type} (f g : A → Int) : ∀ xs : List A, sumI (fun x => f x + g x) xs = sumI f xs + sumI g xs
  | [] => rfl
  | x :: xs => by
    have h2 := sumI_add f g xs
    simp only [sumI, List.map_cons, List.sum_cons] at h2 ⊢
    rw [h2]; omega
theorem sumI_const {A : Type} (c : Int) : ∀ xs : List A, sumI (fun _ => c) xs = (xs.length : Int) * c
  | [] => by simp [sumI]
  | x :: xs => by
    have h2 := sumI_const c xs
    simp only [sumI, List.map_cons, List.sum_cons, List.length_cons] at h2 ⊢
    rw [h2, Int.natCast_add, Int.add_mul]; simp; omega
/-! Counts of values. -/
def cntAt (xs : List (List Int)) (v : Nat) (a : Int) : Int := sumI (fun y => if y.getD v 0 = a then 1 else 0) xs
def cntRow (xs : List (List Int)) (v : Nat) : List Int := (List.range 6).map (fun a : Nat => cntAt xs v (a : Int))
def margTo (xs : List (List Int)) (n : Nat) : List (List Int) := (List.range n).map (cntRow xs)
theorem cntRow_len (xs : List (List Int)) (v : Nat) : (cntRow xs v).length = 6 := by simp [cntRow]
theorem cntRow_0 (v : Nat) : cntRow [] v = List.replicate 6 0 := by simp [cntRow, cntAt, sumI]; rfl
theorem cntRow_at {xs : List (List Int)} {v : Nat} {a : Int} (h : 0 ≤ a ∧ a ≤ 5) : (cntRow xs v).getD a.toNat 0 = cntAt xs v a := by
  obtain ⟨k, rfl⟩ : ∃ k : Nat, a = (k : Int) := ⟨a.toNat, by omega⟩
  have hk : k < 6 := by omega
  simp [cntRow, List.getD_eq_getElem?_getD, hk]
theorem cntAt_snoc (xs : List (List Int)) (y : List Int) (v : Nat) (a : Int) : cntAt (xs ++ [y]) v a = cntAt xs v a + if y.getD v 0 = a then 1 else 0 := by
  simp [cntAt, sumI]
theorem cntAt_le (xs : List (List Int)) (v : Nat) (a : Int) : 0 ≤ cntAt xs v a ∧ cntAt xs v a ≤ (xs.length : Int) := by
  have := sumI_in (f := fun y : List Int => if y.getD v 0 = a then (1 : Int) else 0) (n := 1) (xs := xs) (fun y _ => by split <;> omega)
  simp only [cntAt]; omega
theorem cntRow_step {xs : List (List Int)} {y : List Int} {v : Nat} (h : 0 ≤ y.getD v 0 ∧ y.getD v 0 ≤ 5) : (cntRow xs v).set (y.getD v 0).toNat ((cntRow xs v).getD (y.getD v 0).toNat 0 + 1) = cntRow (xs ++ [y]) v := by
  rw [cntRow_at h]
  apply List.ext_getElem
  · simp [cntRow]
  · intro i h1 h2
    simp only [List.getElem_set, cntRow, List.getElem_map, List.getElem_range, cntAt_snoc]
    by_cases e : (y.getD v 0).toNat = i
    · have e2 : y.getD v 0 = (i : Int) := by omega
      rw [if_pos e, if_pos e2, e2]
    · have e2 : ¬ y.getD v 0 = (i : Int) := by omega
      rw [if_neg e, if_neg e2]; simp
theorem margTo_at {xs : List (List Int)} {n v : Nat} (h : v < n) : (margTo xs n).getD v [] = cntRow xs v := by simp [margTo, List.getD_eq_getElem?_getD, h]
theorem margTo_len (xs : List (List Int)) (n : Nat) : (margTo xs n).length = n := by simp [margTo]
/-- In how many places all of them agree with x. -/
def agrTo (xs : List (List Int)) (x : List Int) : Nat → Int
  | 0 => 0
  | k + 1 => agrTo xs x k + cntAt xs k (x.getD k 0)
def agrL (xs : List (List Int)) (x : List Int) : Int := agrTo xs x x.length
theorem agr_le (xs : List (List Int)) (x : List Int) : ∀ k : Nat, 0 ≤ agrTo xs x k ∧ agrTo xs x k ≤ (k : Int) * (xs.length : Int)
  | 0 => by simp [agrTo]
  | k + 1 => by
    have h1 := agr_le xs x k
    have h2 := cntAt_le xs k (x.getD k 0)
    simp only [agrTo]
    rw [show (((k + 1 : Nat) : Int) * (xs.length : Int)) = (k : Int) * (xs.length : Int) + (xs.length : Int) by rw [Int.natCast_add, Int.add_mul]; simp]
    omega
theorem agr_apart (xs : List (List Int)) (x : List Int) : ∀ k : Nat, agrTo xs x k = (xs.length : Int) * (k : Int) - sumI (fun y => distTo x y k) xs
  | 0 => by
    have := sumI_const (A := List Int) 0 xs
    simp only [agrTo, distTo, this]; simp
  | k + 1 => by
    have h1 := agr_apart xs x k
    have h2 := sumI_add (fun y => distTo x y k) (fun y => if x.getD k 0 ≠ y.getD k 0 then (1 : Int) else 0) xs
    have h3 := sumI_add (fun y : List Int => if y.getD k 0 = x.getD k 0 then (1 : Int) else 0) (fun y => if x.getD k 0 ≠ y.getD k 0 then (1 : Int) else 0) xs
    have h4 : sumI (fun y : List Int => (if y.getD k 0 = x.getD k 0 then (1 : Int) else 0) + if x.getD k 0 ≠ y.getD k 0 then (1 : Int) else 0) xs = sumI (fun _ => (1 : Int)) xs := sumI_congr (fun y _ => by
      by_cases e : y.getD k 0 = x.getD k 0
      · rw [if_pos e, if_neg (by rw [e]; simp)]; rfl
      · rw [if_neg e, if_pos (fun h => e h.symm)]; rfl)
    rw [sumI_const] at h4
    simp only [agrTo, distTo, cntAt] at h1 h2 h3 h4 ⊢
    rw [h1, h2]
    rw [show ((xs.length : Int) * ((k + 1 : Nat) : Int)) = (xs.length : Int) * (k : Int) + (xs.length : Int) by rw [Int.natCast_add, Int.mul_add]; simp]
    omega
/-- The sum of the distances from all. -/
def distAll (all : List (List Int)) (x : List Int) : Int := sumI (fun y => distI x y) all
theorem agr_dist {all : List (List Int)} {n : Nat} {x : List Int} (h : x.length = n) : agrL all x = (all.length : Int) * (n : Int) - distAll all x := by
  unfold agrL distAll distI; rw [h]; exact agr_apart all x n
theorem distAll_in (all : List (List Int)) (x : List Int) : 0 ≤ distAll all x ∧ distAll all x ≤ (x.length : Int) * (all.length : Int) :=
  sumI_in (fun y _ => distTo_le x y x.length)
theorem median_eq {all : List (List Int)} {n : Nat} (h : ∀ x ∈ all, x.length = n) : bestI (distAll all) all = bestI (fun x => - agrL all x) all :=
  best_congrO (fun x hx y hy => by rw [agr_dist (h x hx), agr_dist (h y hy)]; omega)
def medL (m : Mod) : List Int × Bool := if validModB m = true then bestI (distAll (sols m)) (sols m) else ([], false)
theorem med_in {m : Mod} (h : (medL m).2 = true) : (medL m).1 ∈ sols m ∧ ∀ y ∈ sols m, distAll (sols m) (medL m).1 ≤ distAll (sols m) y := by
  unfold medL at h ⊢
  split at h
  · rename_i hv; rw [if_pos hv]; exact best_in h
  · cases h
theorem sumI_le {A : Type} {f : A → Int} {n : Int} {xs : List A} {k : Nat} (h : ∀ x ∈ xs, 0 ≤ f x ∧ f x ≤ n) (hk : k ≤ xs.length) : 0 ≤ sumI f (xs.take k) ∧ sumI f (xs.take k) ≤ n * (k : Int) := by
  have := sumI_in (f := f) (n := n) (xs := xs.take k) (fun x hx => h x (List.mem_of_mem_take hx))
  rwa [List.length_take, Nat.min_eq_left hk] at this
theorem margTo_succ (xs : List (List Int)) (n : Nat) : margTo xs (n + 1) = margTo xs n ++ [cntRow xs n] := by simp [margTo, List.range_succ]
theorem margTo_ok {all : List (List Int)} {n : Nat} (h : all.length ≤ 1296) : ∀ r ∈ margTo all n, r.length = 6 ∧ ∀ v ∈ r, 0 ≤ v ∧ v ≤ 1296 := fun r hr => by
  obtain ⟨v, _, rfl⟩ := List.mem_map.1 hr
  refine ⟨cntRow_len _ _, fun a ha => ?_⟩
  obtain ⟨b, _, rfl⟩ := List.mem_map.1 ha
  have := cntAt_le all v (b : Int)
  omega
def agrR (cs : List (List Int)) (x : List Int) : Nat → Int
  | 0 => 0
  | k + 1 => agrR cs x k + (cs.getD k []).getD (x.getD k 0).toNat 0
theorem agrR_eq {all : List (List Int)} {n : Nat} {x : List Int} (hx : Vals x) (hl : x.length = n) : ∀ k, k ≤ n → agrR (margTo all n) x k = agrTo all x k
  | 0, _ => rfl
  | k + 1, h => by
    have hv := hx.at (k := k) (by omega)
    rw [agrR, agrTo, agrR_eq hx hl k (by omega), margTo_at (by omega), cntRow_at hv]
theorem agrR_at {cs : List (List Int)} {x : List Int} {k : Nat} (hr : ∀ r ∈ cs, r.length = 6 ∧ ∀ v ∈ r, 0 ≤ v ∧ v ≤ 1296) (hx : Vals x) (hl : x.length ≤ cs.length) (hk : k < x.length) : (cs.getD k []).length = 6 ∧ 0 ≤ x.getD k 0 ∧ x.getD k 0 ≤ 5 ∧ 0 ≤ (cs.getD k []).getD (x.getD k 0).toNat 0 ∧ (cs.getD k []).getD (x.getD k 0).toNat 0 ≤ 1296 := by
  have h1 := hr _ (getD_mem (d := []) (by omega : k < cs.length))
  have h2 := hx.at hk
  have h3 := h1.2 _ (getD_mem (d := 0) (by omega : (x.getD k 0).toNat < (cs.getD k []).length))
  exact ⟨h1.1, h2.1, h2.2, h3⟩
theorem agrR_le {cs : List (List Int)} {x : List Int} (hr : ∀ r ∈ cs, r.length = 6 ∧ ∀ v ∈ r, 0 ≤ v ∧ v ≤ 1296) (hx : Vals x) (hl : x.length ≤ cs.length) : ∀ k : Nat, k ≤ x.length → 0 ≤ agrR cs x k ∧ agrR cs x k ≤ 1296 * (k : Int)
  | 0, _ => by simp [agrR]
  | k + 1, h => by
    have h1 := agrR_le hr hx hl k (by omega)
    have h2 := agrR_at hr hx hl (by omega : k < x.length)
    rw [agrR]; omega
theorem agrR_sol {m : Mod} {x : List Int} (h : x ∈ sols m) : agrR (margTo (sols m) m.doms.length) x x.length = agrL (sols m) x := agrR_eq (sols_vals h) (sols_len h) _ (by rw [sols_len h]; exact Nat.le_refl _)
theorem arg_in1 {p : List Int → Int} {xs : List (List Int)} {a : Int} {k : Nat} (e : a = argTo p xs k) (h : 1 ≤ k) : 0 ≤ a ∧ a < (k : Int) := by
  subst e
  rcases arg_law p xs k with ⟨h0, h1⟩ | ⟨h0, h1, h2, h3⟩ <;> omega
theorem med_T {m : Mod} {a : Int} {k : Nat} (e : a = argTo (fun x => -(agrL (sols m) x)) (sols m) k) (hk : k < (sols m).length) (h1 : 1 ≤ k) (c : agrR (margTo (sols m) m.doms.length) ((sols m).getD a.toNat []) ((sols m).getD a.toNat []).length < agrR (margTo (sols m) m.doms.length) ((sols m).getD k []) ((sols m).getD k []).length) : (k : Int) = argTo (fun x => -(agrL (sols m) x)) (sols m) (k + 1) := by
  have h2 := arg_in1 e h1
  rw [agrR_sol (getD_mem (by omega)), agrR_sol (getD_mem (by omega))] at c
  exact arg_T e (.inr (by omega))
theorem med_F {m : Mod} {a : Int} {k : Nat} (e : a = argTo (fun x => -(agrL (sols m) x)) (sols m) k) (hk : k < (sols m).length) (h1 : 1 ≤ k) (c : ¬ agrR (margTo (sols m) m.doms.length) ((sols m).getD a.toNat []) ((sols m).getD a.toNat []).length < agrR (margTo (sols m) m.doms.length) ((sols m).getD k []) ((sols m).getD k []).length) : a = argTo (fun x => -(agrL (sols m) x)) (sols m) (k + 1) := by
  have h2 := arg_in1 e h1
  rw [agrR_sol (getD_mem (by omega)), agrR_sol (getD_mem (by omega))] at c
  exact arg_F e (by omega)
theorem med_no {m : Mod} (h : (!(validModB m)) = true) : medL m = ([], false) := by unfold medL; rw [if_neg (by simpa using h)]
theorem med_yes {m : Mod} (h : validModB m = true) : medL m = bestI (distAll (sols m)) (sols m) := by unfold medL; rw [if_pos h]
theorem med_0 {m : Mod} (h : validModB m = true) (h0 : ((sols m).length : Int) = 0) : medL m = ([], false) := by rw [med_yes h, best_nil (by omega)]
theorem med_a {m : Mod} (h : validModB m = true) {a : Int} {k : Nat} (e : a = argTo (fun x => -(agrL (sols m) x)) (sols m) k) (hk : k = (sols m).length) (h1 : 1 ≤ k) : medL m = ((sols m).getD a.toNat [], true) := by
  subst hk
  have h2 := arg_in1 e h1
  rw [med_yes h, median_eq (n := m.doms.length) (fun x hx => sols_len hx)]
  exact best_arg e (by omega)
theorem med_len {m : Mod} : (medL m).1.length ≤ 4 := by
  unfold medL
  split
  · rename_i h; exact best_len ⟨h⟩ _
  · simp
theorem medL_ok {m : Mod} (h : (medL m).2 = true) : MOk m := by
  unfold medL at h
  split at h
  · rename_i hv; exact ⟨hv⟩
  · cases h
theorem med_dist {m : Mod} (h : (medL m).2 = true) {x y : List Int} (hy : y ∈ sols m) : 0 ≤ distI y x ∧ distI y x ≤ 4 := by
  have h1 := distTo_le y x y.length
  have h2 := sols_len hy
  have := (medL_ok h).n
  unfold distI; omega
theorem med_gain {m : Mod} (h : (medL m).2 = true) {i k : Nat} {g : Int} (hi : i < (solL m).length) (hc : cntI m ≤ 20) (hk : k = (solL m).length) (e : g = sumI (fun y => distI ((solL m).getD i []) y) ((solL m).take k) - sumI (fun y => distI (medL m).1 y) ((solL m).take k)) : ¬ g < 0 := by
  have hv := (medL_ok h).v
  rw [hk, List.take_length, solL_all hc hv] at e
  rw [solL_all hc hv] at hi
  have := (med_in h).2 _ (getD_mem (d := []) hi)
  unfold distAll at this
  omega
theorem med_g {a b : Bool} {m : Mod} (h : ((a || b) || !((medL m).2)) = false) : (medL m).2 = true := by
  simp only [Bool.or_eq_false_iff, Bool.not_eq_false'] at h; exact h.2
theorem med_c {k n : Nat} {c : Int} (h : (decide ((k : Int) < (n : Int)) && decide (c ≤ 20)) = true) : k < n ∧ c ≤ 20 := by
  simp only [Bool.and_eq_true, decide_eq_true_eq] at h; omega
theorem sol_len {m : Mod} {k : Nat} (h : (k : Int) < ((solL m).length : Int)) : ((solL m).getD k []).length = m.doms.length := sols_len (solL_mem (getD_mem (by omega)))
theorem gain_in {m : Mod} {i k : Nat} {g : Int} (h : (medL m).2 = true) (hi : i < (solL m).length) (hk : (k : Int) < ((solL m).length : Int)) (e : g = sumI (fun y => distI ((solL m).getD i []) y) ((solL m).take k) - sumI (fun y => distI (medL m).1 y) ((solL m).take k)) :
    -80 ≤ g ∧ g ≤ 80 ∧ 0 ≤ distI ((solL m).getD i []) ((solL m).getD k []) ∧ distI ((solL m).getD i []) ((solL m).getD k []) ≤ 4 ∧ 0 ≤ distI (medL m).1 ((solL m).getD k []) ∧ distI (medL m).1 ((solL m).getD k []) ≤ 4 := by
  have h1 := solL_mem (getD_mem (d := []) hi)
  have h2 := (med_in h).1
  have d1 := sumI_le (f := fun y => distI ((solL m).getD i []) y) (n := 4) (xs := solL m) (k := k) (fun y _ => med_dist h h1) (by omega)
  have d2 := sumI_le (f := fun y => distI (medL m).1 y) (n := 4) (xs := solL m) (k := k) (fun y _ => med_dist h h2) (by omega)
  have d3 := med_dist h (x := (solL m).getD k []) h1
  have d4 := med_dist h (x := (solL m).getD k []) h2
  have hf := solL_few (m := m)
  omega
theorem gain_step {m : Mod} {i k : Nat} {g : Int} (hk : (k : Int) < ((solL m).length : Int)) (e : g = sumI (fun y => distI ((solL m).getD i []) y) ((solL m).take k) - sumI (fun y => distI (medL m).1 y) ((solL m).take k)) :
    g + distI ((solL m).getD i []) ((solL m).getD k []) - distI (medL m).1 ((solL m).getD k []) = sumI (fun y => distI ((solL m).getD i []) y) ((solL m).take (k + 1)) - sumI (fun y => distI (medL m).1 y) ((solL m).take (k + 1)) := by
  rw [sumI_step (d := []) (by omega : k < (solL m).length), sumI_step (d := []) (by omega : k < (solL m).length), e]; omega
theorem med_isSol {m : Mod} (h : (medL m).2 = true) : isSolT m (medL m).1 = true := sols_isSol (medL_ok h) (med_in h).1
end Go.Proofs.Ytbbphbihgikmdaa
