/- Neighbours: the program's answer and the reference's are the same. No program in sight. Conditions: none. -/
import Derived.Test.YtcdemjjgmnbkfaaPureG
namespace Go.Proofs.Ytcdemjjgmnbkfaa
open Go
set_option linter.unusedSimpArgs false
set_option linter.unusedVariables false
def natsI (xs : List Nat) : List Int := xs.map (fun (i : Nat) => (i : Int))
def membersTo (b : Int) (k : Nat) : List Int := natsI ((List.range k).filter (fun (i : Nat) => hasB b (i : Int)))
def membersI (b : Int) : List Int := membersTo b 63
theorem filter_succ (p : Nat → Bool) (k : Nat) : (List.range (k + 1)).filter p = (List.range k).filter p ++ (if p k = true then [k] else []) := by
  rw [List.range_succ, List.filter_append]; congr 1
  by_cases h : p k = true
  · simp [h]
  · simp [h]
theorem members_stepT {b : Int} {k : Nat} {out : List Int} (h : out = membersTo b k) (c : hasB b (k : Int) = true) : out ++ [(k : Int)] = membersTo b (k + 1) := by
  subst h; simp only [membersTo, natsI, filter_succ, c, if_true, List.map_append, List.map_cons, List.map_nil]
theorem members_stepF {b : Int} {k : Nat} {out : List Int} (h : out = membersTo b k) (c : hasB b (k : Int) = false) : out = membersTo b (k + 1) := by
  subst h; simp only [membersTo, natsI, filter_succ, c, Bool.false_eq_true, if_false, List.append_nil]
theorem ishr_pos {b : Int} {k : Nat} (h0 : 0 ≤ b) (h1 : b < 2 ^ 63) (hk : k ≤ 63) (h : (0 : Int) < ishr b (k : Int)) : k < 63 := by
  obtain ⟨b, rfl⟩ := Int.eq_ofNat_of_zero_le h0
  rw [ishr_nat (by omega)] at h
  refine Nat.lt_of_le_of_ne hk (fun e => ?_)
  subst e
  have h2 : b < 2 ^ 63 := by exact_mod_cast h1
  rw [Nat.shiftRight_eq_div_pow, Nat.div_eq_of_lt h2] at h
  simp at h
theorem members_end {b : Int} {k : Nat} {out : List Int} (h0 : 0 ≤ b) (h1 : b < 2 ^ 63) (hk : k ≤ 63) (h : out = membersTo b k) (c : ¬ (0 : Int) < ishr b (k : Int)) : out = membersI b := by
  subst h
  obtain ⟨b, rfl⟩ := Int.eq_ofNat_of_zero_le h0
  have h2 : b < 2 ^ 63 := by exact_mod_cast h1
  rw [ishr_nat (by omega)] at c
  have hz : b >>> k = 0 := Nat.eq_zero_of_not_pos (fun h => c (by exact_mod_cast h))
  unfold membersI
  have key : ∀ j, k + j ≤ 63 → membersTo (b : Int) k = membersTo (b : Int) (k + j) := fun j => by
    induction j with
    | zero => intro _; rfl
    | succ j ih =>
      intro hj
      rw [ih (by omega), show k + (j + 1) = (k + j) + 1 from rfl]
      refine members_stepF rfl ?_
      rw [hasB_nat h2 (by omega)]
      have h3 : b < 2 ^ k := by
        rw [Nat.shiftRight_eq_div_pow] at hz
        exact (Nat.div_eq_zero_iff.1 hz).resolve_left (Nat.ne_of_gt (Nat.two_pow_pos k))
      exact Nat.testBit_lt_two_pow (Nat.lt_of_lt_of_le h3 (Nat.pow_le_pow_right (by decide) (by omega)))
  have := key (63 - k) (by omega)
  rw [show k + (63 - k) = 63 by omega] at this
  exact this
theorem members_len {b : Int} {k : Nat} {out : List Int} (h : out = membersTo b k) : out.length ≤ k := by
  subst h; simp only [membersTo, natsI, List.length_map]; exact Nat.le_trans (List.length_filter_le _ _) (by simp)
theorem adjB_comm (cons : List Con) (u v : Int) : adjB cons u v = adjB cons v u := by
  simp only [adjB]; congr 1; funext c; simp only [joins]
  rw [Bool.and_right_comm]
  congr 2
  exact decide_eq_decide.2 ⟨fun h e => h e.symm, fun h e => h e.symm⟩
/-- The reference's list: the indexes that answer yes. -/
def nbTo (m : Mod) (v : Int) (k : Nat) : List Int := natsI ((List.range k).filter (fun (u : Nat) => adjB m.cons (u : Int) v))
theorem nb_stepT {m : Mod} {v : Int} {k : Nat} {out : List Int} (h : out = nbTo m v k) (c : adjB m.cons (k : Int) v = true) : out ++ [(k : Int)] = nbTo m v (k + 1) := by
  subst h; simp only [nbTo, natsI, filter_succ, c, if_true, List.map_append, List.map_cons, List.map_nil]
theorem nb_stepF {m : Mod} {v : Int} {k : Nat} {out : List Int} (h : out = nbTo m v k) (c : adjB m.cons (k : Int) v = false) : out = nbTo m v (k + 1) := by
  subst h; simp only [nbTo, natsI, filter_succ, c, Bool.false_eq_true, if_false, List.append_nil]
theorem nb_len {m : Mod} {v : Int} {k : Nat} {out : List Int} (h : out = nbTo m v k) : out.length ≤ k := by
  subst h; simp only [nbTo, natsI, List.length_map]; exact Nat.le_trans (List.length_filter_le _ _) (by simp)
def nbCS (m : Mod) (v : Int) : Bool := !(validModB m) || !(withinB v 0 ((m.doms.length : Int) - 1))
def nbS (m : Mod) (v : Int) : List Int := if nbCS m v = true then [] else nbTo m v m.doms.length
def nbI (m : Mod) (v : Int) : List Int := if (!(varsInB m [v])) = true then [] else membersI ((graphI m).getD v.toNat 0)
theorem nb_end {m : Mod} {v : Int} {k : Nat} {out : List Int} (h : out = nbTo m v k) (hk : k = m.doms.length) (c : nbCS m v = false) : out = nbS m v := by
  subst hk; rw [h, nbS, if_neg (by rw [c]; simp)]
theorem nbC_eq (m : Mod) (v : Int) : (!(varsInB m [v])) = nbCS m v := by
  simp only [varsInB, nbCS, allInB, List.all_cons, List.all_nil, Bool.and_true, Bool.not_and]
structure NbOk (m : Mod) (v : Int) : Prop where
  n1 : 1 ≤ m.doms.length
  n : m.doms.length ≤ 4
  i : InN m.cons m.doms.length
  v : 0 ≤ v ∧ v < m.doms.length
theorem nb_ok {m : Mod} {v : Int} (h : nbCS m v = false) : NbOk m v := by
  simp only [nbCS, Bool.or_eq_false_iff, Bool.not_eq_false', withinB_iff] at h
  have hn := valid_n h.1
  exact ⟨hn.1, hn.2, valid_in h.1, by omega⟩
theorem nb_okI {m : Mod} {v : Int} (h : (!(varsInB m [v])) = false) : NbOk m v := nb_ok (by rw [← nbC_eq]; exact h)
theorem NbOk.mask {m : Mod} {v : Int} (h : NbOk m v) : (graphI m).length = m.doms.length ∧ 0 ≤ (graphI m).getD v.toNat 0 ∧ (graphI m).getD v.toNat 0 < 2 ^ 63 := by
  have hn := h.n
  have hg := graphI_mask (by omega) h.i
  have hv := h.v
  obtain ⟨x, h1, h2⟩ := hg.2 v.toNat (by omega)
  refine ⟨hg.1, by rw [h1]; exact Int.natCast_nonneg _, ?_⟩
  rw [h1]
  have : x < 2 ^ m.doms.length := lt_of_bits (fun b hb => ((h2 b).1 hb).1)
  have h3 : 2 ^ m.doms.length ≤ 2 ^ 63 := Nat.pow_le_pow_right (by decide) (by omega)
  exact_mod_cast Nat.lt_of_lt_of_le this h3
theorem nb_eq (m : Mod) (v : Int) : nbI m v = nbS m v := by
  simp only [nbI, nbS, nbC_eq]
  cases hc : nbCS m v with
  | true => rfl
  | false =>
    simp only [Bool.false_eq_true, if_false]
    have h := nb_ok hc
    have hn := h.n
    have hg := graphI_mask (by omega) h.i
    obtain ⟨v, rfl⟩ := Int.eq_ofNat_of_zero_le h.v.1
    have hv := h.v.2
    obtain ⟨x, h1, h2⟩ := hg.2 v (by omega)
    have hx : x < 2 ^ 63 := Nat.lt_of_lt_of_le (lt_of_bits (fun b hb => ((h2 b).1 hb).1)) (Nat.pow_le_pow_right (by decide) (by omega : m.doms.length ≤ 63))
    rw [Int.toNat_natCast, h1]
    unfold membersI membersTo nbTo
    congr 1
    obtain ⟨j, hj⟩ : ∃ j, 63 = m.doms.length + j := ⟨63 - m.doms.length, by omega⟩
    rw [hj, List.range_add, List.filter_append]
    have e2 : (List.map (fun x => m.doms.length + x) (List.range j)).filter (fun (i : Nat) => hasB (x : Int) (i : Int)) = [] := by
      rw [List.filter_eq_nil_iff]
      intro i hi hb
      obtain ⟨q, hq, rfl⟩ := List.mem_map.1 hi
      have hq' := List.mem_range.1 hq
      rw [hasB_nat hx (by omega), h2] at hb
      omega
    rw [e2, List.append_nil]
    refine List.filter_congr (fun i hi => ?_)
    have hi' := List.mem_range.1 hi
    rw [hasB_nat hx (by omega), adjB_comm m.cons (i : Int) (v : Int), Bool.eq_iff_iff, h2]
    exact ⟨fun h => h.2, fun h => ⟨hi', h⟩⟩
end Go.Proofs.Ytcdemjjgmnbkfaa
