/- Ranks of solutions: the plain functions. No program in sight. Conditions: none. -/
import Derived.Test.YtiilanckbocifaaPureS
namespace Go.Proofs.Ytiilanckbocifaa
open Go
set_option linter.unusedSimpArgs false
set_option linter.unusedVariables false
theorem vals_of {x : List Int} (h : allInB x 0 5 = true) : Vals x := fun v hv => by
  simp only [allInB, List.all_eq_true] at h
  exact withinB_iff.1 (h v hv)
theorem allIn_of {x : List Int} (h : Vals x) : allInB x 0 5 = true := by
  simp only [allInB, List.all_eq_true]; exact fun v hv => withinB_iff.2 (h v hv)
def isSolT (m : Mod) (x : List Int) : Bool := (validModB m && (decide ((x.length : Int) = (m.doms.length : Int)) && allInB x 0 5)) && isSolB m x
def inSTo (m : Mod) (x : List Int) (k : Nat) : Bool := (List.range k).all (fun i => withinB (x.getD i 0) 0 5 && hasB (m.doms.getD i 0) (x.getD i 0))
def isSolS (m : Mod) (x : List Int) : Bool := inSTo m x x.length && metB m x
def isSolU (m : Mod) (x : List Int) : Bool := (validModB m && decide ((x.length : Int) = (m.doms.length : Int))) && isSolS m x
theorem inS_step {m : Mod} {x : List Int} {k : Nat} (h : inSTo m x k = true) (c : (!(withinB (x.getD k 0) 0 5 && hasB (m.doms.getD k 0) (x.getD k 0))) = false) : inSTo m x (k + 1) = true := by
  simp only [inSTo, List.range_succ, List.all_append, List.all_cons, List.all_nil, Bool.and_true] at *
  rw [h, Bool.true_and]; simpa using c
theorem inS_no {m : Mod} {x : List Int} {k : Nat} (hk : k < x.length) (c : (!(withinB (x.getD k 0) 0 5 && hasB (m.doms.getD k 0) (x.getD k 0))) = true) : false = isSolS m x := by
  have : inSTo m x x.length = false := by
    cases h : inSTo m x x.length with
    | false => rfl
    | true => have := List.all_eq_true.1 h k (List.mem_range.2 hk); rw [this] at c; simp at c
  unfold isSolS; rw [this]; rfl
theorem inS_vals {m : Mod} {x : List Int} {k : Nat} (h : inSTo m x k = true) (hk : k = x.length) : Vals x := fun v hv => by
  subst hk
  obtain ⟨i, hi, rfl⟩ := List.getElem_of_mem hv
  have := List.all_eq_true.1 h i (List.mem_range.2 hi)
  simp only [Bool.and_eq_true] at this
  rw [show x[i] = x.getD i 0 from by simp [List.getD, hi]]
  exact withinB_iff.1 this.1
theorem met_no {m : Mod} {x : List Int} {k : Nat} (hk : k < m.cons.length) (c : (!(conAt x (m.cons.getD k nilCon))) = true) : false = isSolS m x := by
  have : metB m x = false := all_false (d := nilCon) hk (by simpa using c)
  unfold isSolS; rw [this, Bool.and_false]
theorem met_yes {m : Mod} {x : List Int} {k k2 : Nat} (h : inSTo m x k = true) (hk : k = x.length) (h2 : (m.cons.take k2).all (conAt x) = true) (hk2 : m.cons.length ≤ k2) : true = isSolS m x := by
  subst hk
  rw [List.take_of_length_le hk2] at h2
  unfold isSolS metB; rw [h, h2]; rfl
theorem isSol_eq (m : Mod) (x : List Int) : isSolT m x = isSolU m x := by
  unfold isSolT isSolU isSolS isSolB
  cases validModB m with
  | false => rfl
  | true =>
    cases decide ((x.length : Int) = (m.doms.length : Int)) with
    | false => rfl
    | true =>
      cases metB m x with
      | false => simp
      | true =>
        simp only [Bool.true_and, Bool.and_true]
        rw [Bool.eq_iff_iff]
        simp only [Bool.and_eq_true, inDomB, inSTo, List.all_eq_true, List.mem_range]
        constructor
        · rintro ⟨h1, h2⟩ i hi
          exact ⟨withinB_iff.2 ((vals_of h1).at hi), h2 i hi⟩
        · intro h
          refine ⟨allIn_of fun v hv => ?_, fun i hi => (h i hi).2⟩
          obtain ⟨i, hi, rfl⟩ := List.getElem_of_mem hv
          rw [show x[i] = x.getD i 0 from by simp [List.getD, hi]]
          exact withinB_iff.1 (h i hi).1
def rankI (m : Mod) (x : List Int) : Int := if isSolT m x = true then indexBy (fun y => decide (x = y)) (sols m) else -1
def rankS (m : Mod) (x : List Int) : Int := if isSolU m x = true then indexBy (fun y => decide (y = x)) (sols m) else -1
theorem rank_eq (m : Mod) (x : List Int) : rankI m x = rankS m x := by
  unfold rankI rankS
  rw [isSol_eq]
  congr 2; funext y; exact decide_eq_decide.2 eq_comm
theorem isSolT_ok {m : Mod} {x : List Int} (h : isSolT m x = true) : MOk m := by
  simp only [isSolT, Bool.and_eq_true] at h; exact ⟨h.1.1⟩
theorem isSolU_ok {m : Mod} {x : List Int} (h : isSolU m x = true) : MOk m := by
  simp only [isSolU, Bool.and_eq_true] at h; exact ⟨h.1.1⟩
theorem rankI_no {m : Mod} {x : List Int} (h : (!(isSolT m x)) = true) : (-1 : Int) = rankI m x := by
  unfold rankI; rw [if_neg (by simpa using h)]
theorem rankI_yes {m : Mod} {x : List Int} (h : (!(isSolT m x)) = false) : indexBy (fun y => decide (x = y)) (sols m) = rankI m x := by
  unfold rankI; rw [if_pos (by simpa using h)]
theorem rankS_no {m : Mod} {x : List Int} (h : (!(isSolU m x)) = true) : (-1 : Int) = rankS m x := by
  unfold rankS; rw [if_neg (by simpa using h)]
theorem rankS_yes {m : Mod} {x : List Int} (h : (!(isSolU m x)) = false) : indexBy (fun y => decide (y = x)) (sols m) = rankS m x := by
  unfold rankS; rw [if_pos (by simpa using h)]
theorem sols_few {m : Mod} (h : MOk m) : (sols m).length ≤ 1296 := solT_few h.n.2
def solAt (m : Mod) (r : Int) : List Int × Bool := if validModB m = true ∧ withinB r 0 (((sols m).length : Int) - 1) = true then ((sols m).getD r.toNat [], true) else ([], false)
section at_
variable {m : Mod} {r : Int}
theorem solAt_0 (h : (!(validModB m)) = true) : solAt m r = ([], false) := by unfold solAt; rw [if_neg]; intro h2; rw [h2.1] at h; simp at h
theorem solAt_1 (h : (!(withinB r 0 (((sols m).length : Int) - 1))) = true) : solAt m r = ([], false) := by unfold solAt; rw [if_neg]; intro h2; rw [h2.2] at h; simp at h
theorem solAt_2 (h : (!(validModB m)) = false) (k : (!(withinB r 0 (((sols m).length : Int) - 1))) = false) : solAt m r = ((sols m).getD r.toNat [], true) := by unfold solAt; rw [if_pos]; exact ⟨by simpa using h, by simpa using k⟩
theorem solAt_in (k : (!(withinB r 0 (((sols m).length : Int) - 1))) = false) : 0 ≤ r ∧ r < ((sols m).length : Int) := by
  have : withinB r 0 (((sols m).length : Int) - 1) = true := by simpa using k
  rw [withinB_iff] at this; omega
end at_
theorem solAt_len {m : Mod} {r : Int} : (solAt m r).1.length ≤ 4 := by
  unfold solAt
  split
  · rename_i h
    have hM : MOk m := ⟨h.1⟩
    have hw := withinB_iff.1 h.2
    have hm := getD_mem (d := ([] : List Int)) (by omega : r.toNat < (sols m).length)
    have hb := mem_tupL.1 (List.mem_filter.1 (show (sols m).getD r.toNat [] ∈ (tupL m.doms).filter (metB m) from hm)).1
    have := hM.n; have := hb.1
    simp only; omega
  · simp
theorem sols_len {m : Mod} {x : List Int} (h : x ∈ sols m) : x.length = m.doms.length := (mem_tupL.1 (List.mem_filter.1 (show x ∈ (tupL m.doms).filter (metB m) from h)).1).1
theorem sols_vals {m : Mod} {x : List Int} (h : x ∈ sols m) : Vals x := (mem_tupL.1 (List.mem_filter.1 (show x ∈ (tupL m.doms).filter (metB m) from h)).1).vals
theorem sols_ne {m : Mod} (hM : MOk m) : ∀ x ∈ sols m, x ≠ [] := fun x hx e => by
  have h1 := sols_len hx; rw [e] at h1; have := hM.n; simp at h1; omega
end Go.Proofs.Ytiilanckbocifaa
