/- Plain law: literals over values, and the number of solutions that make literals true. No program in sight. Conditions: none. -/
import Derived.Test.YtkfioalfofoikaaGreatPureV
import Derived.Test.YtkfioalfofoikaaGreatPureZ
import Derived.Test.YtkfioalfofoikaaGreatLit
namespace Go.Proofs.YtkfioalfofoikaaGreat
open Go
set_option linter.unusedSimpArgs false
set_option linter.unusedVariables false
def holdL (x : List Int) (l : Lit) : Bool := decide (x.getD l.var.toNat 0 = l.val) != l.neg
def allT (ls : List Lit) (x : List Int) : Bool := ls.all (holdL x)
def truesI (l : Lit) : Int := if l.neg = true then iandNot 63 (ishl 1 l.val) else ishl 1 l.val
theorem trues_T {l : Lit} (h : l.neg = true) : iandNot 63 (ishl 1 l.val) = truesI l := by unfold truesI; rw [if_pos h]
theorem trues_F {l : Lit} (h : l.neg = false) : ishl 1 l.val = truesI l := by unfold truesI; rw [if_neg (by rw [h]; simp)]
theorem trues_has {l : Lit} {v : Int} (h1 : 0 ≤ l.val ∧ l.val ≤ 5) (h2 : 0 ≤ v ∧ v ≤ 5) : hasB (truesI l) v = (decide (v = l.val) != l.neg) := by
  have key : ∀ i, i < 6 → ∀ j, j < 6 → hasB (iandNot 63 (ishl 1 ((i : Nat) : Int))) ((j : Nat) : Int) = !decide (((j : Nat) : Int) = ((i : Nat) : Int)) ∧ hasB (ishl 1 ((i : Nat) : Int)) ((j : Nat) : Int) = decide (((j : Nat) : Int) = ((i : Nat) : Int)) := by decide +kernel
  obtain ⟨a, b, c⟩ := l
  dsimp only at h1 ⊢
  obtain ⟨i, rfl⟩ := Int.eq_ofNat_of_zero_le h1.1
  obtain ⟨j, rfl⟩ := Int.eq_ofNat_of_zero_le h2.1
  obtain ⟨k1, k2⟩ := key i (by omega) j (by omega)
  unfold truesI
  cases c
  · simp only [Bool.false_eq_true, if_false, k2]; cases decide ((j : Int) = (i : Int)) <;> rfl
  · simp only [if_true, k1]; cases decide ((j : Int) = (i : Int)) <;> rfl
def litOkB (n : Int) (l : Lit) : Bool := withinB l.var 0 (n - 1) && withinB l.val 0 5
def litLt (a b : Lit) : Bool := if a.var ≠ b.var then decide (a.var < b.var) else if a.val ≠ b.val then decide (a.val < b.val) else !a.neg && b.neg
theorem litLt_1 {a b : Lit} (h : a.var ≠ b.var) : decide (a.var < b.var) = litLt a b := by unfold litLt; rw [if_pos h]
theorem litLt_2 {a b : Lit} (h0 : ¬ a.var ≠ b.var) (h : a.val ≠ b.val) : decide (a.val < b.val) = litLt a b := by unfold litLt; rw [if_neg h0, if_pos h]
theorem litLt_3 {a b : Lit} (h0 : ¬ a.var ≠ b.var) (h : ¬ a.val ≠ b.val) : (!a.neg && b.neg) = litLt a b := by unfold litLt; rw [if_neg h0, if_neg h]
def orI : List Int → Int
  | [] => 0
  | x :: r => if x ≠ 0 then x else orI r
theorem orI_at : ∀ {xs : List Int} {k : Nat}, k < xs.length → (xs.take k).all (fun x => decide (x = 0)) = true → xs.getD k 0 ≠ 0 → xs.getD k 0 = orI xs
  | [], k, h, _, _ => absurd h (Nat.not_lt_zero k)
  | x :: r, 0, _, _, h => by
    have h : x ≠ 0 := h
    unfold orI; rw [if_pos h]; rfl
  | x :: r, k + 1, hk, h1, h => by
    simp only [List.take_succ_cons, List.all_cons, Bool.and_eq_true, decide_eq_true_eq] at h1
    unfold orI; rw [if_neg (by simp [h1.1])]
    exact orI_at (by simpa using hk) h1.2 h
theorem orI_end : ∀ {xs : List Int}, xs.all (fun x => decide (x = 0)) = true → (0 : Int) = orI xs
  | [], _ => rfl
  | x :: r, h => by
    simp only [List.all_cons, Bool.and_eq_true, decide_eq_true_eq] at h
    unfold orI; rw [if_neg (by simp [h.1])]; exact orI_end h.2
theorem all0_step {xs : List Int} {k : Nat} (hk : k < xs.length) (h : (xs.take k).all (fun x => decide (x = 0)) = true) (c : ¬ xs.getD k 0 ≠ 0) : (xs.take (k + 1)).all (fun x => decide (x = 0)) = true := by
  rw [take_succ_getD 0 hk, List.all_append, h]; simpa using c
theorem all0_end {xs : List Int} {k : Nat} (hk : k = xs.length) (h : (xs.take k).all (fun x => decide (x = 0)) = true) : (0 : Int) = orI xs := orI_end (by rw [hk, List.take_length] at h; exact h)
def litCmp (a b : Lit) : Int := orI [cmpI a.var b.var, cmpI a.val b.val, cmpI (if a.neg = true then 1 else 0) (if b.neg = true then 1 else 0)]
theorem litCmp_lt (a b : Lit) : decide (0 ≤ litCmp a b) = !(litLt a b) := by
  obtain ⟨a1, a2, a3⟩ := a; obtain ⟨b1, b2, b3⟩ := b
  simp only [litCmp, litLt, orI, cmpI]
  by_cases h1 : a1 < b1
  · simp [h1, show a1 ≠ b1 by omega]
  · by_cases h2 : b1 < a1
    · simp [h1, h2, show a1 ≠ b1 by omega]
    · have e : a1 = b1 := by omega
      subst e
      by_cases h3 : a2 < b2
      · simp [h3, show a2 ≠ b2 by omega]
      · by_cases h4 : b2 < a2
        · simp [h3, h4, show a2 ≠ b2 by omega]
        · have e : a2 = b2 := by omega
          subst e
          cases a3 <;> cases b3 <;> simp
def clAt (n : Int) (c : List Lit) (i : Nat) : Bool := litOkB n (c.getD i nilLit) && !(decide ((0 : Int) < (i : Int)) && !(litLt (c.getD ((i : Int) - 1).toNat nilLit) (c.getD i nilLit)))
def clTo (n : Int) (c : List Lit) (k : Nat) : Bool := (List.range k).all (clAt n c)
def clS (n : Int) (c : List Lit) : Bool := clTo n c c.length && decide ((c.length : Int) ≤ 12)
def clI (n : Int) (c : List Lit) : Bool := clTo n c c.length && (withinB n 1 4 && decide ((c.length : Int) ≤ 12))
theorem cl_b {A B p q : Bool} (h : (((!A) || !B) || (p && !q)) = false) : (A && B && !(p && !q)) = true := by revert h; cases A <;> cases B <;> cases p <;> cases q <;> simp
theorem cl_b' {A B p q : Bool} (h : (((!A) || !B) || (p && !q)) = true) : (A && B && !(p && !q)) = false := by revert h; cases A <;> cases B <;> cases p <;> cases q <;> simp
theorem cl_step {n : Int} {c : List Lit} {k : Nat} (hi : clTo n c k = true) (h : ((!(withinB (c.getD k nilLit).var 0 (n - 1)) || !(withinB (c.getD k nilLit).val 0 5)) || (decide ((0 : Int) < (k : Int)) && !(litLt (c.getD ((k : Int) - 1).toNat nilLit) (c.getD k nilLit)))) = false) : clTo n c (k + 1) = true := by
  unfold clTo at *
  rw [List.range_succ, List.all_append, hi]
  simp only [List.all_cons, List.all_nil, Bool.and_true, Bool.true_and]
  exact cl_b h
theorem cl_stepI {n : Int} {c : List Lit} {k : Nat} (hi : clTo n c k = true) (h : ((!(withinB (c.getD k nilLit).var 0 (n - 1)) || !(withinB (c.getD k nilLit).val 0 5)) || (decide ((0 : Int) < (k : Int)) && decide (0 ≤ litCmp (c.getD ((k : Int) - 1).toNat nilLit) (c.getD k nilLit)))) = false) : clTo n c (k + 1) = true := cl_step hi (by rw [litCmp_lt] at h; exact h)
theorem cl_at {n : Int} {c : List Lit} {k : Nat} (hk : k < c.length) (h : ((!(withinB (c.getD k nilLit).var 0 (n - 1)) || !(withinB (c.getD k nilLit).val 0 5)) || (decide ((0 : Int) < (k : Int)) && !(litLt (c.getD ((k : Int) - 1).toNat nilLit) (c.getD k nilLit)))) = true) : clTo n c c.length = false := by
  unfold clTo
  rw [List.all_eq_false]
  exact ⟨k, List.mem_range.2 hk, by rw [show clAt n c k = false from cl_b' h]; simp⟩
theorem cl_noS {n : Int} {c : List Lit} {k : Nat} (hk : k < c.length) (h : ((!(withinB (c.getD k nilLit).var 0 (n - 1)) || !(withinB (c.getD k nilLit).val 0 5)) || (decide ((0 : Int) < (k : Int)) && !(litLt (c.getD ((k : Int) - 1).toNat nilLit) (c.getD k nilLit)))) = true) : false = clS n c := by
  unfold clS; rw [cl_at hk h]; rfl
theorem cl_noI {n : Int} {c : List Lit} {k : Nat} (hk : k < c.length) (h : ((!(withinB (c.getD k nilLit).var 0 (n - 1)) || !(withinB (c.getD k nilLit).val 0 5)) || (decide ((0 : Int) < (k : Int)) && decide (0 ≤ litCmp (c.getD ((k : Int) - 1).toNat nilLit) (c.getD k nilLit)))) = true) : false = clI n c := by
  rw [litCmp_lt] at h
  unfold clI; rw [cl_at hk h]; rfl
theorem cl_yesS {n : Int} {c : List Lit} {k : Nat} (hk : k = c.length) (hi : clTo n c k = true) : decide ((c.length : Int) ≤ 12) = clS n c := by unfold clS; rw [← hk, hi]; rfl
theorem cl_yesI {n : Int} {c : List Lit} {k : Nat} (hk : k = c.length) (hi : clTo n c k = true) : (withinB n 1 4 && decide ((c.length : Int) ≤ 12)) = clI n c := by unfold clI; rw [← hk, hi]; rfl
/-- The literals are in order, over the model's variables. -/
def litsB (m : Mod) (c : List Lit) : Bool := validModB m && clI (m.doms.length : Int) c
theorem litsB_S (m : Mod) (c : List Lit) : (validModB m && clS (m.doms.length : Int) c) = litsB m c := by
  unfold litsB
  cases h : validModB m with
  | false => rfl
  | true =>
    have hM : MOk m := ⟨h⟩
    have hn := hM.n
    unfold clS clI
    rw [show withinB (m.doms.length : Int) 1 4 = true by unfold withinB; simp; omega]
    simp
structure LOk (m : Mod) (c : List Lit) : Prop where
  hM : MOk m
  h : ∀ l ∈ c, (0 ≤ l.var ∧ l.var < (m.doms.length : Int)) ∧ (0 ≤ l.val ∧ l.val ≤ 5)
  n : c.length ≤ 12
theorem lits_ok {m : Mod} {c : List Lit} (h : litsB m c = true) : LOk m c := by
  unfold litsB clI at h
  simp only [Bool.and_eq_true, decide_eq_true_eq] at h
  refine ⟨⟨h.1⟩, fun l hl => ?_, by omega⟩
  obtain ⟨i, hi, rfl⟩ := List.getElem_of_mem hl
  have h1 := List.all_eq_true.1 h.2.1 i (List.mem_range.2 hi)
  unfold clAt litOkB at h1
  simp only [Bool.and_eq_true, withinB_iff] at h1
  rw [List.getD_eq_getElem?_getD, List.getElem?_eq_getElem hi, Option.getD_some] at h1
  omega
theorem lits_okN {m : Mod} {c : List Lit} (h : (!(litsB m c)) = false) : LOk m c := lits_ok (by simpa using h)
/-- How many solutions make all the literals true. -/
def cwI (m : Mod) (c : List Lit) : Int := if litsB m c = true then (((sols m).filter (allT c)).length : Int) else -1
theorem cw_no {m : Mod} {c : List Lit} (h : (!(litsB m c)) = true) : (-1 : Int) = cwI m c := by unfold cwI; rw [if_neg (by simpa using h)]
def cwTo (c : List Lit) (xs : List (List Int)) (k : Nat) : Int := (((xs.take k).filter (allT c)).length : Int)
theorem cwTo_T {c : List Lit} {xs : List (List Int)} {k : Nat} {z : Int} (h : z = cwTo c xs k) (hk : k < xs.length) (t : allT c (xs.getD k []) = true) : z + 1 = cwTo c xs (k + 1) := by
  rw [h, cwTo, cwTo, take_succ_getD [] hk, List.filter_append, List.filter_cons, t]; simp
theorem cwTo_F {c : List Lit} {xs : List (List Int)} {k : Nat} {z : Int} (h : z = cwTo c xs k) (hk : k < xs.length) (t : allT c (xs.getD k []) = false) : z = cwTo c xs (k + 1) := by
  rw [h, cwTo, cwTo, take_succ_getD [] hk, List.filter_append, List.filter_cons, t]; simp
theorem cw_yes {m : Mod} {c : List Lit} {k : Nat} {z : Int} (h : (!(litsB m c)) = false) (hi : z = cwTo c (sols m) k) (hk : k = (sols m).length) : z = cwI m c := by
  unfold cwI; rw [if_pos (by simpa using h), hi, cwTo, hk, List.take_length]
theorem cwTo_le (c : List Lit) (xs : List (List Int)) (k : Nat) : 0 ≤ cwTo c xs k ∧ cwTo c xs k ≤ (k : Int) := by
  have h := List.length_filter_le (allT c) (xs.take k)
  rw [List.length_take] at h
  unfold cwTo; omega
theorem allT_I {x : List Int} {ls : List Lit} (h : ∀ l ∈ ls, 0 ≤ l.val ∧ l.val ≤ 5) (hx : ∀ l ∈ ls, 0 ≤ x.getD l.var.toNat 0 ∧ x.getD l.var.toNat 0 ≤ 5) : (!(ls.any (fun l => !(hasB (truesI l) (x.getD l.var.toNat 0))))) = allT ls x := by
  unfold allT
  induction ls with
  | nil => rfl
  | cons l r ih =>
    have e := trues_has (h l (.head _)) (hx l (.head _))
    rw [List.any_cons, List.all_cons, ← ih (fun l hl => h l (.tail _ hl)) (fun l hl => hx l (.tail _ hl)), e, Bool.not_or, Bool.not_not]; rfl
def allTo (ls : List Lit) (x : List Int) (k : Nat) : Bool := (ls.take k).all (holdL x)
theorem allTo_step {ls : List Lit} {x : List Int} {k : Nat} (hk : k < ls.length) (hi : allTo ls x k = true) (c : (decide (x.getD (ls.getD k nilLit).var.toNat 0 = (ls.getD k nilLit).val) == (ls.getD k nilLit).neg) = false) : allTo ls x (k + 1) = true := by
  unfold allTo at *
  rw [take_succ_getD nilLit hk, List.all_append, hi]
  simp only [List.all_cons, List.all_nil, Bool.and_true, Bool.true_and]
  unfold holdL; simpa [bne] using c
theorem allTo_no {ls : List Lit} {x : List Int} {k : Nat} (hk : k < ls.length) (c : (decide (x.getD (ls.getD k nilLit).var.toNat 0 = (ls.getD k nilLit).val) == (ls.getD k nilLit).neg) = true) : false = allT ls x := by
  symm; unfold allT; rw [List.all_eq_false]
  exact ⟨_, getD_mem (d := nilLit) hk, by unfold holdL; simpa [bne] using c⟩
theorem allTo_end {ls : List Lit} {x : List Int} {k : Nat} (hk : k = ls.length) (hi : allTo ls x k = true) : true = allT ls x := by
  unfold allTo at hi; rw [hk, List.take_length] at hi; exact hi.symm
theorem eqLit_iff (a b : Lit) : decide (a = b) = (decide (a.var = b.var) && (decide (a.val = b.val) && decide (a.neg = b.neg))) := by
  rw [Bool.eq_iff_iff]; simp [lit_ext]
theorem litsB_iff {m : Mod} {c : List Lit} : litsB m c = true ↔ validModB m = true ∧ clTo (m.doms.length : Int) c c.length = true ∧ c.length ≤ 12 := by
  unfold litsB clI
  constructor
  · intro h; simp only [Bool.and_eq_true, decide_eq_true_eq] at h; exact ⟨h.1, h.2.1, by omega⟩
  · rintro ⟨h1, h2, h3⟩
    have hn := (MOk.mk h1 : MOk m).n
    rw [h1, h2, show withinB (m.doms.length : Int) 1 4 = true by unfold withinB; simp; omega]; simp; omega
theorem cl_one {n : Int} {l : Lit} (h : litOkB n l = true) : clTo n [l] 1 = true := by
  unfold clTo clAt; simp [h]
theorem litOk_at {n : Int} {c : List Lit} {i : Nat} (h : clTo n c c.length = true) (hi : i < c.length) : litOkB n (c.getD i nilLit) = true := by
  have h1 := List.all_eq_true.1 h i (List.mem_range.2 hi)
  unfold clAt at h1; simp only [Bool.and_eq_true] at h1; exact h1.1
theorem clTo_take {n : Int} {c : List Lit} {i : Nat} (h : clTo n c c.length = true) (hi : i ≤ c.length) : clTo n (c.take i) (c.take i).length = true := by
  unfold clTo
  rw [List.all_eq_true]
  intro j hj
  rw [List.mem_range, List.length_take] at hj
  have h1 := List.all_eq_true.1 h j (List.mem_range.2 (by omega))
  have e : ∀ q, q < i → (c.take i).getD q nilLit = c.getD q nilLit := fun q hq => by simp [List.getD, List.getElem?_take, hq]
  unfold clAt at h1 ⊢
  rw [e j (by omega)]
  by_cases hj0 : j = 0
  · subst hj0; simpa using h1
  · rw [e _ (by omega)]; exact h1
theorem sub_one {c : List Lit} {i : Nat} (hi : i < c.length) : (c.take (i + 1)).drop i = [c.getD i nilLit] := by
  rw [take_succ_getD nilLit hi, List.drop_append_of_le_length (by simp; omega), List.drop_eq_nil_of_le (by simp; omega), List.nil_append]
theorem cw_ge {m : Mod} {c : List Lit} (h : (decide (cwI m c ≠ cwI m c) || decide (cwI m c < 0)) = false) : litsB m c = true := by
  cases e : litsB m c with
  | true => rfl
  | false => simp [cwI, e] at h
theorem cw_eq {m : Mod} {c : List Lit} (h : litsB m c = true) : cwI m c = (((sols m).filter (allT c)).length : Int) := by unfold cwI; rw [if_pos h]
theorem filter_split {A : Type} {p q : A → Bool} : ∀ (xs : List A), (∀ x, q x = !(p x)) → (xs.filter p).length + (xs.filter q).length = xs.length
  | [], _ => rfl
  | x :: xs, h => by
    have := filter_split xs h
    rw [List.filter_cons, List.filter_cons, h x]
    cases p x <;> simp <;> omega
theorem filter_le {A : Type} {p q : A → Bool} : ∀ (xs : List A), (∀ x, p x = true → q x = true) → (xs.filter p).length ≤ (xs.filter q).length
  | [], _ => Nat.le_refl _
  | x :: xs, h => by
    have := filter_le xs h
    rw [List.filter_cons, List.filter_cons]
    cases e : p x with
    | false => cases q x <;> simp <;> omega
    | true => rw [h x e]; simp; omega
theorem lits_one {m : Mod} {c : List Lit} {i : Nat} (h : litsB m c = true) (hi : i < c.length) : litsB m ((c.take (i + 1)).drop i) = true ∧ litsB m [⟨(c.getD i nilLit).var, (c.getD i nilLit).val, !(c.getD i nilLit).neg⟩] = true ∧ litsB m (c.take i) = true := by
  obtain ⟨h1, h2, h3⟩ := litsB_iff.1 h
  have h4 := litOk_at h2 hi
  refine ⟨?_, litsB_iff.2 ⟨h1, cl_one h4, by simp⟩, litsB_iff.2 ⟨h1, clTo_take h2 (by omega), by simp; omega⟩⟩
  rw [sub_one hi]; exact litsB_iff.2 ⟨h1, cl_one h4, by simp⟩
theorem cw_sum {m : Mod} {c : List Lit} {i : Nat} (h : litsB m c = true) (hi : i < c.length) : cwI m ((c.take (i + 1)).drop i) + cwI m [⟨(c.getD i nilLit).var, (c.getD i nilLit).val, !(c.getD i nilLit).neg⟩] = cntI m := by
  obtain ⟨h1, h2, h3⟩ := lits_one h hi
  rw [cw_eq h1, cw_eq h2, ← cnt_yes (litsB_iff.1 h).1, sub_one hi]
  have := filter_split (p := allT [c.getD i nilLit]) (q := allT [⟨(c.getD i nilLit).var, (c.getD i nilLit).val, !(c.getD i nilLit).neg⟩]) (sols m) (fun x => by
    unfold allT holdL; simp only [List.all_cons, List.all_nil, Bool.and_true]
    cases (c.getD i nilLit).neg <;> simp)
  omega
theorem cw_one {m : Mod} {c : List Lit} {i : Nat} (h : litsB m c = true) (hi : i < c.length) : cwI m c ≤ cwI m ((c.take (i + 1)).drop i) := by
  obtain ⟨h1, h2, h3⟩ := lits_one h hi
  rw [cw_eq h, cw_eq h1, sub_one hi]
  have := filter_le (p := allT c) (q := allT [c.getD i nilLit]) (sols m) (fun x hx => by
    unfold allT at hx ⊢; simp only [List.all_cons, List.all_nil, Bool.and_true]
    exact List.all_eq_true.1 hx _ (getD_mem hi))
  omega
theorem cw_pre {m : Mod} {c : List Lit} {i : Nat} (h : litsB m c = true) (hi : i < c.length) : cwI m c ≤ cwI m (c.take i) := by
  obtain ⟨h1, h2, h3⟩ := lits_one h hi
  rw [cw_eq h, cw_eq h3]
  have := filter_le (p := allT c) (q := allT (c.take i)) (sols m) (fun x hx => by
    unfold allT at hx ⊢; rw [List.all_eq_true] at hx ⊢
    exact fun l hl => hx l (List.mem_of_mem_take hl))
  omega
theorem cw_nil {m : Mod} {c : List Lit} (h : litsB m c = true) : decide (cwI m [] = cntI m) = true := by
  have hv := (litsB_iff.1 h).1
  rw [cw_eq (litsB_iff.2 ⟨hv, rfl, by simp⟩), ← cnt_yes hv, decide_eq_true_eq]
  have : (sols m).filter (allT []) = sols m := by rw [List.filter_eq_self]; intro x _; rfl
  rw [this]
theorem cw_in {m : Mod} (hM : MOk m) (c : List Lit) : -1 ≤ cwI m c ∧ cwI m c ≤ 1296 := by
  unfold cwI
  split
  · have h1 := List.length_filter_le (allT c) (sols m)
    have h2 := sols_few hM
    omega
  · omega
theorem cw_add {m : Mod} (hM : MOk m) (a b : List Lit) : -9223372036854775808 ≤ cwI m a + cwI m b ∧ cwI m a + cwI m b ≤ 9223372036854775807 := by
  have h1 := cw_in hM a
  have h2 := cw_in hM b
  omega
theorem cw_go {a b c n p : Int} (h1 : a + b = c) (h2 : n ≤ a) (h3 : n ≤ p) : ((decide (a + b ≠ c) || decide (a < n)) || decide (p < n)) = false := by
  rw [decide_eq_false (by omega : ¬ a + b ≠ c), decide_eq_false (by omega : ¬ a < n), decide_eq_false (by omega : ¬ p < n)]; rfl
end Go.Proofs.YtkfioalfofoikaaGreat
