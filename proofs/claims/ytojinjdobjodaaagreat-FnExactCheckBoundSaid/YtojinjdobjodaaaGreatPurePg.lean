/- What the walks of proofs by reverse propagation ask of plain lists. Conditions: none. -/
import Derived.Test.YtojinjdobjodaaaGreatPurePf
namespace Go.Proofs.YtojinjdobjodaaaGreat
open Go
set_option linter.unusedSimpArgs false
set_option linter.unusedVariables false
theorem bd_ok {m : Mod} {obj : List Int} {b : Int} (h : (!(objOkB m obj) || !(withinB b (-998) 1000)) = false) : m.cons.length ≤ 100 ∧ obj.length ≤ 100 ∧ MOk m ∧ obj.length = m.doms.length ∧ (-1000 ≤ b ∧ b ≤ 2000) := by
  simp only [Bool.or_eq_false_iff, Bool.not_eq_false', withinB_iff] at h
  have h1 := objok h.1
  have h2 := h1.1.few
  have h3 := h1.1.n
  exact ⟨by omega, by omega, h1.1, h1.2.1, by omega⟩
theorem low_small {vs obj : List Int} {b : Int} (h : vs = iotaN obj.length) (hn : 1 ≤ obj.length ∧ obj.length ≤ 100) : ConSm 100 ⟨1, vs, obj, b, []⟩ := by
  subst h
  exact ⟨by dsimp only; rw [iota_len]; omega, by dsimp only; rw [iota_len]; omega, hn.2, by simp, fun r hr => (by cases hr)⟩
theorem ishl_small {v : Int} (h : 0 ≤ v ∧ v ≤ 5) : 1 ≤ ishl 1 v ∧ ishl 1 v ≤ 32 := by
  have key : ∀ i, i < 6 → 1 ≤ ishl 1 ((i : Nat) : Int) ∧ ishl 1 ((i : Nat) : Int) ≤ 32 := by decide +kernel
  obtain ⟨i, rfl⟩ := Int.eq_ofNat_of_zero_le h.1
  exact key i (by omega)
/-! One clause. -/
def LstL (xs : List Lit) (l : Lit) : Prop := l = xs.getLastD nilLit
def nzL (ds : List Int) (l : Lit) : Prop := iand (ds.getD l.var.toNat 0) (truesI l) ≠ 0
theorem opn_T {c : List Lit} {ds : List Int} {k : Nat} (hk : k < c.length) (h : nzL ds (c.getD k nilLit)) : opnL (c.take (k + 1)) ds = opnL (c.take k) ds ++ [c.getD k nilLit] := by
  unfold opnL
  rw [take_succ_getD nilLit hk, List.filter_append, List.filter_cons, if_pos (by simpa [nzL] using h)]; rfl
theorem opn_F {c : List Lit} {ds : List Int} {k : Nat} (hk : k < c.length) (h : ¬ nzL ds (c.getD k nilLit)) : opnL (c.take (k + 1)) ds = opnL (c.take k) ds := by
  unfold opnL
  rw [take_succ_getD nilLit hk, List.filter_append, List.filter_cons, if_neg (by simpa [nzL] using h)]; simp
theorem opn_len (c : List Lit) (ds : List Int) (k : Nat) : (opnL (c.take k) ds).length ≤ k := by
  have h1 := List.length_filter_le (fun l => decide (iand (ds.getD l.var.toNat 0) (truesI l) ≠ 0)) (c.take k)
  have h2 := List.length_take_le k c
  unfold opnL; omega
theorem un_T {c : List Lit} {ds : List Int} {k : Nat} {q la lb : Int} {lc : Bool} (h : q = ((opnL (c.take k) ds).length : Int) ∧ LstL (opnL (c.take k) ds) ⟨la, lb, lc⟩) (hk : k < c.length) (hz : nzL ds (c.getD k nilLit)) :
    q + 1 = ((opnL (c.take (k + 1)) ds).length : Int) ∧ LstL (opnL (c.take (k + 1)) ds) ⟨(c.getD k nilLit).var, (c.getD k nilLit).val, (c.getD k nilLit).neg⟩ := by
  rw [opn_T hk hz]
  refine ⟨by rw [h.1]; simp, ?_⟩
  unfold LstL
  simp
theorem un_F {c : List Lit} {ds : List Int} {k : Nat} {q la lb : Int} {lc : Bool} (h : q = ((opnL (c.take k) ds).length : Int) ∧ LstL (opnL (c.take k) ds) ⟨la, lb, lc⟩) (hk : k < c.length) (hz : ¬ nzL ds (c.getD k nilLit)) :
    q = ((opnL (c.take (k + 1)) ds).length : Int) ∧ LstL (opnL (c.take (k + 1)) ds) ⟨la, lb, lc⟩ := by
  rw [opn_F hk hz]; exact h
theorem un_0 {c : List Lit} {ds : List Int} {k : Nat} {q la lb : Int} {lc : Bool} (h : q = ((opnL (c.take k) ds).length : Int) ∧ LstL (opnL (c.take k) ds) ⟨la, lb, lc⟩) (hk : c.length ≤ k) (hq : q = 0) : unitL c ds = zerosL ds.length := by
  rw [List.take_of_length_le hk] at h
  exact unit_0 (List.eq_nil_of_length_eq_zero (by omega))
theorem un_one {c : List Lit} {ds : List Int} {k : Nat} {q la lb : Int} {lc : Bool} (h : q = ((opnL (c.take k) ds).length : Int) ∧ LstL (opnL (c.take k) ds) ⟨la, lb, lc⟩) (hk : c.length ≤ k) (hq : q = 1) : opnL c ds = [⟨la, lb, lc⟩] := by
  rw [List.take_of_length_le hk] at h
  have h1 : (opnL c ds).length = 1 := by omega
  obtain ⟨l, e⟩ := List.length_eq_one_iff.1 h1
  have h2 := h.2
  rw [e] at h2 ⊢
  unfold LstL at h2
  simp at h2
  rw [h2]
theorem un_1 {c : List Lit} {ds : List Int} {k : Nat} {q la lb : Int} {lc : Bool} (h : q = ((opnL (c.take k) ds).length : Int) ∧ LstL (opnL (c.take k) ds) ⟨la, lb, lc⟩) (hk : c.length ≤ k) (hq : q = 1) : unitL c ds = setT ds ⟨la, lb, lc⟩ := unit_1 (un_one h hk hq)
theorem un_last {c : List Lit} {ds : List Int} {k n : Nat} {q la lb : Int} {lc : Bool} (hc : ClIn n c) (h : q = ((opnL (c.take k) ds).length : Int) ∧ LstL (opnL (c.take k) ds) ⟨la, lb, lc⟩) (hk : c.length ≤ k) (hq : q = 1) : (0 ≤ la ∧ la < (n : Int)) ∧ (0 ≤ lb ∧ lb ≤ 5) :=
  hc ⟨la, lb, lc⟩ (opn_mem (by rw [un_one h hk hq]; exact .head _))
theorem un_2 {c : List Lit} {ds : List Int} {k : Nat} {q la lb : Int} {lc : Bool} (h : q = ((opnL (c.take k) ds).length : Int) ∧ LstL (opnL (c.take k) ds) ⟨la, lb, lc⟩) (hk : c.length ≤ k) (h0 : q ≠ 0) (h1 : q ≠ 1) : unitL c ds = ds := by
  rw [List.take_of_length_le hk] at h
  exact unit_2 (by omega)
def CfI (c : List Lit) (ds : List Int) (k : Nat) (a : Int) : Prop := (a = -1 ∧ opnL (c.take k) ds = []) ∨ (0 ≤ a ∧ a < (k : Int) ∧ opnL (c.take k) ds = [c.getD a.toNat nilLit])
theorem cf_0 (c : List Lit) (ds : List Int) : CfI c ds 0 (-1) := .inl ⟨rfl, rfl⟩
theorem cf_b {c : List Lit} {ds : List Int} {k : Nat} {a : Int} (h : CfI c ds k a) : -1 ≤ a ∧ a ≤ (k : Int) := by rcases h with h | h <;> omega
theorem cf_T {c : List Lit} {ds : List Int} {k : Nat} {a : Int} (h : CfI c ds k a) (hk : k < c.length) (hz : nzL ds (c.getD k nilLit)) (ha : a < 0) : CfI c ds (k + 1) (k : Int) := by
  rcases h with h | h
  · right; rw [opn_T hk hz, h.2]; exact ⟨by omega, by omega, rfl⟩
  · omega
theorem cf_F {c : List Lit} {ds : List Int} {k : Nat} {a : Int} (h : CfI c ds k a) (hk : k < c.length) (hz : ¬ nzL ds (c.getD k nilLit)) : CfI c ds (k + 1) a := by
  rcases h with h | h
  · left; rw [opn_F hk hz]; exact h
  · right; rw [opn_F hk hz]; exact ⟨h.1, by omega, h.2.2⟩
theorem cf_2 {c : List Lit} {ds : List Int} {k : Nat} {a : Int} (h : CfI c ds k a) (hk : k < c.length) (hz : nzL ds (c.getD k nilLit)) (ha : 0 ≤ a) : unitL c ds = ds := by
  refine unit_2 ?_
  have e : opnL c ds = opnL (c.take (k + 1)) ds ++ opnL (c.drop (k + 1)) ds := by
    unfold opnL; rw [← List.filter_append, List.take_append_drop]
  rw [e, opn_T hk hz]
  rcases h with h | h
  · omega
  · rw [h.2.2]; simp
theorem cf_z {c : List Lit} {ds : List Int} {k : Nat} {a : Int} (h : CfI c ds k a) (hk : c.length ≤ k) (ha : a < 0) : unitL c ds = zerosL ds.length := by
  rcases h with h | h
  · rw [List.take_of_length_le hk] at h; exact unit_0 h.2
  · omega
theorem cf_1 {c : List Lit} {ds : List Int} {k : Nat} {a : Int} (h : CfI c ds k a) (hk : c.length ≤ k) (ha : 0 ≤ a) : unitL c ds = setT ds (c.getD a.toNat nilLit) := by
  rcases h with h | h
  · omega
  · rw [List.take_of_length_le hk] at h; exact unit_1 h.2.2
theorem cf_in {c : List Lit} {ds : List Int} {k n : Nat} {a : Int} (hc : ClIn n c) (h : CfI c ds k a) (hk : c.length ≤ k ∧ k ≤ c.length ∧ 0 ≤ a) : (0 ≤ (c.getD a.toNat nilLit).var ∧ (c.getD a.toNat nilLit).var < (n : Int) ∧ a < (c.length : Int)) ∧ (0 ≤ (c.getD a.toNat nilLit).val ∧ (c.getD a.toNat nilLit).val ≤ 5) := by
  have h1 : a.toNat < c.length := by rcases h with h | h <;> omega
  have h2 := hc _ (getD_mem (d := nilLit) h1)
  exact ⟨⟨h2.1.1, h2.1.2, by omega⟩, h2.2⟩
/-! The rounds. -/
section rounds
variable {m : Mod} {cls : List (List Lit)} {xs ys ds : List Int}
theorem rf_mu (hM : MOk m) (hD : DOk m.doms.length xs) (hc : ClsIn m.doms.length cls) (e : ys = unitA cls (prop m xs)) (hq : decide (ys = xs) = false) : sumN ys < sumN xs := by
  subst e; exact stepW_lt hM hD hc (of_decide_eq_false hq)
theorem rf_go (hM : MOk m) (hD : DOk m.doms.length xs) (hc : ClsIn m.doms.length cls) (e : ys = unitA cls (prop m xs)) (hz : ys.contains 0 = false) (hq : decide (ys = xs) = false) (h : rfE m cls xs = rfE m cls ds) : DOk m.doms.length ys ∧ rfE m cls ys = rfE m cls ds := by
  subst e
  exact ⟨(stepW_ok hM hD hc).1, (rf_step hM hD hc hz (of_decide_eq_false hq)).trans h⟩
theorem rf_yes (hM : MOk m) (hD : DOk m.doms.length xs) (hc : ClsIn m.doms.length cls) (e : ys = unitA cls (prop m xs)) (hz : ys.contains 0 = true) (h : rfE m cls xs = rfE m cls ds) : true = rfE m cls ds := by
  subst e
  rw [← h]; exact (rf_T hM hD hc hz).symm
theorem rf_no (hM : MOk m) (hD : DOk m.doms.length xs) (e : ys = unitA cls (prop m xs)) (hz : ys.contains 0 = false) (hq : decide (ys = xs) = true) (h : rfE m cls xs = rfE m cls ds) : false = rfE m cls ds := by
  subst e
  rw [← h]; exact (rf_F hM hD hz (of_decide_eq_true hq)).symm
end rounds
theorem prfS_no {n : Int} {p : List (List Lit)} {k : Nat} (hk : k < p.length) (h : clS n (p.getD k []) = false) : false = prfS n p := by
  unfold prfS
  have : p.all (clS n) = false := by
    rw [List.all_eq_false]
    exact ⟨_, getD_mem hk, by rw [h]; simp⟩
  rw [this]; rfl
theorem prfS_end {n : Int} {p : List (List Lit)} {k : Nat} (hk : p.length ≤ k) (h : (p.take k).all (clS n) = true) : decide ((p.length : Int) ≤ 200) = prfS n p := by
  rw [List.take_of_length_le hk] at h
  unfold prfS; rw [h]; rfl
/-! Sizes of lists of clauses. -/
def lsum (xs : List (List Lit)) : Nat := (xs.map List.length).sum
theorem lsum_step {xs : List (List Lit)} {k : Nat} (h : k < xs.length) : lsum (xs.take (k + 1)) = lsum (xs.take k) + (xs.getD k []).length := by
  rw [take_succ_getD [] h]; simp [lsum]
theorem lsum_le (xs : List (List Lit)) (k : Nat) : lsum (xs.take k) ≤ lsum xs := by simp only [lsum, List.map_take]; exact sum_take_le _ _
theorem lsum_mem {xs : List (List Lit)} {r : List Lit} (h : r ∈ xs) : r.length ≤ lsum xs := by
  unfold lsum
  induction xs with
  | nil => cases h
  | cons x xs ih =>
    rw [List.map_cons, List.sum_cons]
    rcases List.mem_cons.1 h with rfl | h
    · omega
    · have := ih h; omega
end Go.Proofs.YtojinjdobjodaaaGreat
