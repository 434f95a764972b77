/- Plain law: how often each value occurs among the solutions. No program in sight. Conditions: none. -/
import Derived.Test.YtbbphbihgikmdaaPureW
import Derived.Test.YtbbphbihgikmdaaPureX
import Derived.Test.YtbbphbihgikmdaaPureA
import Derived.Test.YtbbphbihgikmdaaPureN
namespace Go.Proofs.Ytbbphbihgikmdaa
open Go
set_option linter.unusedSimpArgs false
set_option linter.unusedVariables false
def margI (m : Mod) : List (List Int) := if validModB m = true then margTo (sols m) m.doms.length else []
theorem margI_no {m : Mod} (h : (!(validModB m)) = true) : margI m = [] := if_neg (by simpa using h)
theorem margI_yes {m : Mod} (h : validModB m = true) : margI m = margTo (sols m) m.doms.length := if_pos h
def mgIn (xs : List (List Int)) (n k j : Nat) : List (List Int) := (List.range n).map (fun v => if v < j then cntRow (xs.take (k + 1)) v else cntRow (xs.take k) v)
theorem mg_0 (xs : List (List Int)) (n : Nat) : List.replicate n (List.replicate 6 (0 : Int)) = margTo (xs.take 0) n := by
  unfold margTo
  rw [List.take_zero]
  apply List.ext_getElem
  · simp
  · intro i h1 h2
    rw [List.getElem_replicate, List.getElem_map, cntRow_0]
theorem rep_snoc (k : Nat) : List.replicate k (List.replicate 6 (0 : Int)) ++ [List.replicate 6 (0 : Int)] = List.replicate (k + 1) (List.replicate 6 (0 : Int)) := List.replicate_succ'.symm
theorem mgIn_0 (xs : List (List Int)) (n k : Nat) : margTo (xs.take k) n = mgIn xs n k 0 := by unfold mgIn margTo; simp
theorem mgIn_end {xs : List (List Int)} {n k j : Nat} (h : n ≤ j) : mgIn xs n k j = margTo (xs.take (k + 1)) n := by
  unfold mgIn margTo
  apply List.map_congr_left
  intro v hv
  rw [if_pos (by have := List.mem_range.1 hv; omega)]
theorem mgIn_len (xs : List (List Int)) (n k j : Nat) : (mgIn xs n k j).length = n := by simp [mgIn]
theorem mgIn_at {xs : List (List Int)} {n k j : Nat} {v : Nat} (h : v < n) : (mgIn xs n k j).getD v [] = if v < j then cntRow (xs.take (k + 1)) v else cntRow (xs.take k) v := by simp [mgIn, List.getD_eq_getElem?_getD, h]
theorem mgIn_row {xs : List (List Int)} {n k j : Nat} {v : Nat} (h : v < n) : ((mgIn xs n k j).getD v []).length = 6 := by rw [mgIn_at h]; split <;> exact cntRow_len _ _
theorem mgIn_step {xs : List (List Int)} {n k j : Nat} {out : List (List Int)} (ho : out = mgIn xs n k j) (hk : k < xs.length) (hj : j < n) (hv : 0 ≤ (xs.getD k []).getD j 0 ∧ (xs.getD k []).getD j 0 ≤ 5) :
    out.set j ((out.getD j []).set ((xs.getD k []).getD j 0).toNat ((out.getD j []).getD ((xs.getD k []).getD j 0).toNat 0 + 1)) = mgIn xs n k (j + 1) := by
  subst ho
  have e : (mgIn xs n k j).getD j [] = cntRow (xs.take k) j := by rw [mgIn_at hj, if_neg (Nat.lt_irrefl _)]
  rw [e, cntRow_step hv]
  apply List.ext_getElem
  · simp [mgIn]
  · intro i h1 h2
    simp only [mgIn, List.length_set, List.length_map, List.length_range] at h1
    rw [List.getElem_set]
    by_cases e2 : j = i
    · subst e2
      rw [if_pos rfl]
      simp only [mgIn, List.getElem_map, List.getElem_range]
      rw [if_pos (Nat.lt_succ_self j), take_succ_getD [] hk]
    · rw [if_neg e2]
      simp only [mgIn, List.getElem_map, List.getElem_range]
      by_cases e3 : i < j
      · rw [if_pos e3, if_pos (by omega)]
      · rw [if_neg e3, if_neg (by omega)]
theorem mg_cnt {xs : List (List Int)} {n k j : Nat} {out : List (List Int)} (ho : out = mgIn xs n k j) (hj : j < n) {a : Int} (ha : 0 ≤ a ∧ a ≤ 5) (h9 : xs.length ≤ 1296) : 0 ≤ (out.getD j []).getD a.toNat 0 ∧ (out.getD j []).getD a.toNat 0 ≤ 1296 := by
  subst ho
  rw [mgIn_at hj]
  split
  · rw [cntRow_at ha]; have := cntAt_le (xs.take (k + 1)) j a; rw [List.length_take] at this; omega
  · rw [cntRow_at ha]; have := cntAt_le (xs.take k) j a; rw [List.length_take] at this; omega
/-! The law. -/
theorem cntAt_cw {m : Mod} {v : Nat} {a : Nat} (xs : List (List Int)) : cntAt xs v (a : Int) = ((xs.filter (allT [⟨(v : Int), (a : Int), false⟩])).length : Int) := by
  induction xs with
  | nil => rfl
  | cons x xs ih =>
    have e : cntAt (x :: xs) v (a : Int) = (if x.getD v 0 = (a : Int) then 1 else 0) + cntAt xs v (a : Int) := by simp [cntAt, sumI]
    rw [e, ih, List.filter_cons]
    have e2 : allT [⟨(v : Int), (a : Int), false⟩] x = decide (x.getD v 0 = (a : Int)) := by
      unfold allT holdL
      simp only [List.all_cons, List.all_nil, Bool.and_true, Int.toNat_natCast]
      cases decide (x.getD v 0 = (a : Int)) <;> rfl
    rw [e2]
    by_cases h : x.getD v 0 = (a : Int)
    · rw [if_pos h, decide_eq_true h, if_pos rfl, List.length_cons]; omega
    · rw [if_neg h, decide_eq_false h, if_neg (by simp)]; omega
theorem mlits {m : Mod} (hM : MOk m) {v a : Nat} (hv : v < m.doms.length) (ha : a < 6) : litsB m [⟨(v : Int), (a : Int), false⟩] = true := by
  refine litsB_iff.2 ⟨hM.v, ?_, by simp⟩
  unfold clTo clAt litOkB
  have h1 : withinB (v : Int) 0 ((m.doms.length : Int) - 1) = true := withinB_iff.2 (by omega)
  have h2 : withinB (a : Int) 0 5 = true := withinB_iff.2 (by omega)
  simp [List.getD, h1, h2, List.range_succ]
theorem cntRow_nat {xs : List (List Int)} {v a : Nat} (h : a < 6) : (cntRow xs v).getD a 0 = cntAt xs v (a : Int) := by
  have := cntRow_at (xs := xs) (v := v) (a := (a : Int)) (by omega)
  simpa using this
theorem mg_ent {m : Mod} (hM : MOk m) {v a : Nat} (hv : v < m.doms.length) (ha : a < 6) : (cntRow (sols m) v).getD a 0 = cwI m [⟨(v : Int), (a : Int), false⟩] := by
  rw [cntRow_nat ha, cw_eq (mlits hM hv ha), cntAt_cw (m := m)]
theorem cntAt_pos {xs : List (List Int)} {v : Nat} {a : Int} : 0 < cntAt xs v a ↔ ∃ x ∈ xs, a = x.getD v 0 := by
  induction xs with
  | nil => simp [cntAt, sumI]
  | cons x xs ih =>
    have e : cntAt (x :: xs) v a = (if x.getD v 0 = a then 1 else 0) + cntAt xs v a := by simp [cntAt, sumI]
    have h0 := cntAt_le xs v a
    rw [e]
    constructor
    · intro h
      by_cases h1 : x.getD v 0 = a
      · exact ⟨x, .head _, h1.symm⟩
      · rw [if_neg h1] at h
        obtain ⟨y, hy, h2⟩ := ih.1 (by omega)
        exact ⟨y, .tail _ hy, h2⟩
    · rintro ⟨y, hy, h2⟩
      cases hy with
      | head => rw [if_pos h2.symm]; omega
      | tail _ hy =>
        have := ih.2 ⟨y, hy, h2⟩
        split <;> omega
theorem mg_pos {m : Mod} (hM : MOk m) {v a : Nat} (hv : v < m.doms.length) (ha : a < 6) : decide (0 < (cntRow (sols m) v).getD a 0) = dhasB ((backI m).getD v 0) (a : Int) := by
  rw [cntRow_nat ha]
  have h1 := (backI_ok hM).d.at (i := v) (by rw [(backI_ok hM).l]; exact hv)
  unfold dhasB
  rw [withinB_iff.2 h1, withinB_iff.2 (by omega : (0 : Int) ≤ (a : Int) ∧ (a : Int) ≤ 5), Bool.and_self, Bool.true_and, Bool.eq_iff_iff, decide_eq_true_eq, cntAt_pos, backI_yes hM.v, uniV_at hv, uni_has (by omega)]
theorem mg_no {m : Mod} (hM : MOk m) {v a : Nat} (hv : v < m.doms.length) (ha : a < 6) : ((decide (0 < (cntRow (sols m) v).getD a 0) != dhasB ((backI m).getD v 0) (a : Int)) || decide ((cntRow (sols m) v).getD a 0 ≠ cwI m [⟨(v : Int), (a : Int), false⟩])) = false := by
  rw [mg_pos hM hv ha, mg_ent hM hv ha]
  simp
def rowTo (r : List Int) (k : Nat) : Int := (r.take k).sum
theorem rowTo_step {r : List Int} {k : Nat} {s : Int} (h : s = rowTo r k) (hk : k < r.length) : s + r.getD k 0 = rowTo r (k + 1) := by
  rw [h]; unfold rowTo; rw [take_succ_getD 0 hk, List.sum_append]; simp
theorem sum_cnt {xs : List (List Int)} {v : Nat} (h : ∀ x ∈ xs, 0 ≤ x.getD v 0 ∧ x.getD v 0 ≤ 5) : (cntRow xs v).sum = (xs.length : Int) := by
  induction xs with
  | nil => rw [cntRow_0]; decide
  | cons x xs ih =>
    have e : cntRow (x :: xs) v = (List.range 6).map (fun a : Nat => (if x.getD v 0 = (a : Int) then (1 : Int) else 0) + cntAt xs v (a : Int)) := by
      unfold cntRow
      apply List.map_congr_left
      intro a _
      simp [cntAt, sumI]
    have h2 := ih (fun y hy => h y (.tail _ hy))
    have h3 := h x (.head _)
    have e3 : cntRow xs v = (List.range 6).map (fun a : Nat => cntAt xs v (a : Int)) := rfl
    rw [e3] at h2
    rw [e]
    obtain ⟨w, hw⟩ := Int.eq_ofNat_of_zero_le h3.1
    rw [hw]
    have hw6 : w < 6 := by omega
    simp only [List.range_succ, List.range_zero, List.nil_append, List.map_append, List.map_cons, List.map_nil, List.cons_append, List.sum_cons, List.sum_nil, List.length_cons] at h2 ⊢
    rcases (by omega : w = 0 ∨ w = 1 ∨ w = 2 ∨ w = 3 ∨ w = 4 ∨ w = 5) with rfl | rfl | rfl | rfl | rfl | rfl <;> (simp at h2 ⊢; omega)
theorem mg_sum {m : Mod} (hM : MOk m) {v k : Nat} {s : Int} (hv : v < m.doms.length) (h : s = rowTo (cntRow (sols m) v) k) (hk : k = 6) : s = cntI m := by
  rw [h, hk]
  unfold rowTo
  rw [List.take_of_length_le (by rw [cntRow_len]; exact Nat.le_refl _), sum_cnt (fun x hx => (sols_vals hx).at (by rw [sols_len hx]; exact hv)), cnt_yes hM.v]
theorem rowTo_in {xs : List (List Int)} {v k : Nat} (hk : k ≤ 6) (h9 : xs.length ≤ 1296) : 0 ≤ rowTo (cntRow xs v) k ∧ rowTo (cntRow xs v) k ≤ 1296 * (k : Int) := by
  induction k with
  | zero => simp [rowTo]
  | succ k ih =>
    have h1 := ih (by omega)
    have h2 := rowTo_step (r := cntRow xs v) (k := k) rfl (by rw [cntRow_len]; omega)
    rw [← h2, cntRow_nat (by omega)]
    have h3 := cntAt_le xs v (k : Int)
    omega
theorem marg_g {m : Mod} {b : Bool} (h : (b || decide (((margI m).length : Int) = 0)) = false) : MOk m := by
  simp only [Bool.or_eq_false_iff, decide_eq_false_iff_not] at h
  cases h9 : validModB m with
  | true => exact ⟨h9⟩
  | false => exact absurd (by rw [margI_no (by rw [h9]; rfl)]; rfl) h.2
theorem marg_len {m : Mod} (hM : MOk m) : (margI m).length = m.doms.length := by rw [margI_yes hM.v, margTo_len]
theorem marg_at {m : Mod} (hM : MOk m) {v : Nat} (hv : v < m.doms.length) : (margI m).getD v [] = cntRow (sols m) v := by rw [margI_yes hM.v, margTo_at hv]
theorem ent_in {m : Mod} (hM : MOk m) {v a : Nat} (hv : v < m.doms.length) (ha : a < 6) : 0 ≤ ((margI m).getD v []).getD a 0 ∧ ((margI m).getD v []).getD a 0 ≤ 1296 := by
  rw [marg_at hM hv, cntRow_nat ha]
  have := cntAt_le (sols m) v (a : Int)
  have := sols_few hM
  omega
theorem mg_no1 {m : Mod} (hM : MOk m) {v a : Nat} (hv : v < m.doms.length) (ha : a < 6) (h : (decide (0 < ((margI m).getD v []).getD a 0) != dhasB ((backI m).getD v 0) (a : Int)) = true) : False := by
  rw [marg_at hM hv, mg_pos hM hv ha] at h; simp at h
theorem mg_no2 {m : Mod} (hM : MOk m) {v a : Nat} (hv : v < m.doms.length) (ha : a < 6) (h : ((margI m).getD v []).getD a 0 ≠ cwI m [⟨(v : Int), (a : Int), false⟩]) : False := by
  rw [marg_at hM hv, mg_ent hM hv ha] at h; exact h rfl
theorem sum_6 : ∀ n : Nat, (List.replicate n 6).sum = n * 6
  | 0 => rfl
  | n + 1 => by rw [List.replicate_succ, List.sum_cons, sum_6 n]; omega
theorem marg_rsum {m : Mod} : rsum (margI m) ≤ 24 := by
  unfold margI
  split
  · rename_i h
    have hn := valid_n h
    have e : rsum (margTo (sols m) m.doms.length) = m.doms.length * 6 := by
      unfold rsum margTo
      rw [List.map_map, show (List.length ∘ cntRow (sols m)) = (fun _ => 6) from funext (fun v => cntRow_len _ _), List.map_const', List.length_range, sum_6]
    omega
  · simp [rsum]
end Go.Proofs.Ytbbphbihgikmdaa
