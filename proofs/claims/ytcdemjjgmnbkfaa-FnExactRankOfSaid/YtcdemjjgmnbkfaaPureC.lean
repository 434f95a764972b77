/- Plain functions of the exact laws: sizes, copies, comparisons. No program in sight. Conditions: none. -/
import Derived.Test.YtcdemjjgmnbkfaaPureB
namespace Go.Proofs.Ytcdemjjgmnbkfaa
open Go
set_option linter.unusedSimpArgs false
set_option linter.unusedVariables false
instance : DecidableEq Con := fun a b => decidable_of_iff (a.kind = b.kind ∧ a.vars = b.vars ∧ a.args = b.args ∧ a.bound = b.bound ∧ a.rows = b.rows) (by cases a; cases b; simp)
instance : DecidableEq Mod := fun a b => decidable_of_iff (a.doms = b.doms ∧ a.cons = b.cons) (by cases a; cases b; simp)
theorem OwnL.cast {A : Type} {E k : Nat} {H K : Hp} {R : Hp → List Value → A → Prop} {v : Value} {xs ys : List A} (e : xs = ys) (h : OwnL E k H K R v xs) : OwnL E k H K R v ys := e ▸ h
theorem OwnL.rowsK {E : Nat} {H K : Hp} {v : Value} {xs : List (List Int)} (h : OwnL E 1 H K RowV v xs) (c : Cmp H K) : Rows (orHp H K) v xs := (h.mono (K' := orHp H K) (orC c)).sl orL (fun _ _ h => h)
theorem OwnL.consK {E : Nat} {H K : Hp} {v : Value} {xs : List Con} (h : OwnL E 5 H K ConV v xs) (c : Cmp H K) : Cons (orHp H K) v xs := (h.mono (K' := orHp H K) (orC c)).sl orL (fun _ _ h => h)
/-! Sizes. -/
def szB (left n : Int) : Int := if left - n < 0 then -1 else left - n
theorem szB_neg {l n : Int} (h : l - n < 0) : (-1 : Int) = szB l n := by simp [szB, h]
theorem szB_pos {l n x : Int} (h : x = l - n) (h0 : 0 ≤ x) : x = szB l n := by simp only [szB]; split <;> omega
theorem szB_ok {l n : Int} (h : ¬ szB l n < 0) : szB l n = l - n ∧ 0 ≤ l - n := by simp only [szB] at *; split at h <;> simp_all <;> omega
theorem szB_lt {l n : Int} (h : szB l n < 0) : l - n < 0 := by simp only [szB] at *; split at h <;> omega
def rsum (xs : List (List Int)) : Nat := (xs.map List.length).sum
def conN (c : Con) : Nat := c.vars.length + c.args.length + (c.rows.length + rsum c.rows)
def csum (cs : List Con) : Nat := (cs.map conN).sum
def modN (m : Mod) : Nat := m.doms.length + (m.cons.length + csum m.cons)
theorem rsum_step {xs : List (List Int)} {k : Nat} (h : k < xs.length) : rsum (xs.take (k + 1)) = rsum (xs.take k) + (xs.getD k []).length := by
  rw [take_succ_getD [] h]; simp [rsum]
theorem csum_step {xs : List Con} {k : Nat} (h : k < xs.length) : csum (xs.take (k + 1)) = csum (xs.take k) + conN (xs.getD k nilCon) := by
  rw [take_succ_getD nilCon h]; simp [csum]
theorem sum_take_le (xs : List Nat) (k : Nat) : (xs.take k).sum ≤ xs.sum := by
  conv => rhs; rw [← List.take_append_drop k xs, List.sum_append]
  omega
theorem rsum_le (xs : List (List Int)) (k : Nat) : rsum (xs.take k) ≤ rsum xs := by simp only [rsum, List.map_take]; exact sum_take_le _ _
theorem csum_le (xs : List Con) (k : Nat) : csum (xs.take k) ≤ csum xs := by simp only [csum, List.map_take]; exact sum_take_le _ _
theorem le_sum_of {xs : List Nat} {n : Nat} (h : n ∈ xs) : n ≤ xs.sum := by
  induction xs with
  | nil => cases h
  | cons x xs ih =>
    simp only [List.sum_cons]
    cases h with
    | head => omega
    | tail _ h => have := ih h; omega
theorem rsum_mem {xs : List (List Int)} {r : List Int} (h : r ∈ xs) : r.length ≤ rsum xs := le_sum_of (List.mem_map.2 ⟨r, h, rfl⟩)
theorem csum_mem {xs : List Con} {c : Con} (h : c ∈ xs) : conN c ≤ csum xs := le_sum_of (List.mem_map.2 ⟨c, h, rfl⟩)
def SmallC (c : Con) : Prop := conN c ≤ 1048576
def SmallM (m : Mod) : Prop := modN m ≤ 1048576
theorem SmallC.vars {c : Con} (h : SmallC c) : c.vars.length ≤ 1048576 := by simp only [SmallC, conN] at h; omega
theorem SmallC.args {c : Con} (h : SmallC c) : c.args.length ≤ 1048576 := by simp only [SmallC, conN] at h; omega
theorem SmallC.rows {c : Con} (h : SmallC c) : c.rows.length ≤ 1048576 := by simp only [SmallC, conN] at h; omega
theorem SmallC.row {c : Con} (h : SmallC c) : ∀ r ∈ c.rows, r.length ≤ 1048576 := fun r hr => by
  have := rsum_mem hr; simp only [SmallC, conN] at h; omega
theorem SmallM.doms {m : Mod} (h : SmallM m) : m.doms.length ≤ 1048576 := by simp only [SmallM, modN] at h; omega
theorem SmallM.cons {m : Mod} (h : SmallM m) : m.cons.length ≤ 1048576 := by simp only [SmallM, modN] at h; omega
theorem SmallM.con {m : Mod} (h : SmallM m) : ∀ c ∈ m.cons, SmallC c := fun c hc => by
  have := csum_mem hc; simp only [SmallM, SmallC, modN] at *; omega
/-! Copies. -/
theorem fill_step {A : Type} {xs : List A} {z : A} {k : Nat} (d : A) (h : k < xs.length) :
    (xs.take k ++ List.replicate (xs.length - k) z).set k (xs.getD k d) = xs.take (k + 1) ++ List.replicate (xs.length - (k + 1)) z := by
  rw [List.set_append_right _ _ (by simp; omega), take_succ_getD d h, List.append_assoc]
  congr 1
  obtain ⟨j, hj⟩ : ∃ j, xs.length - k = j + 1 := ⟨xs.length - k - 1, by omega⟩
  have e1 : xs.length - (k + 1) = j := by omega
  have e2 : min k xs.length = k := by omega
  simp only [hj, e1, e2, List.length_take, Nat.sub_self, List.replicate_succ, List.set_cons_zero, List.singleton_append]
theorem fill_end {A : Type} {xs : List A} {z : A} {k : Nat} (h : ¬ (k : Int) < (xs.length : Int)) : xs.take k ++ List.replicate (xs.length - k) z = xs := by
  rw [List.take_of_length_le (by omega), show xs.length - k = 0 by omega]; simp
/-! Comparisons. -/
theorem eq_len {A : Type} [DecidableEq A] {a b : List A} (h : (a.length : Int) ≠ b.length) : false = decide (a = b) := by
  symm; rw [decide_eq_false_iff_not]; rintro rfl; exact h rfl
theorem eq_at {A : Type} [DecidableEq A] {a b : List A} {k : Nat} (d : A) (h : a.getD k d ≠ b.getD k d) : false = decide (a = b) := by
  symm; rw [decide_eq_false_iff_not]; rintro rfl; exact h rfl
theorem eq_step {A : Type} {a b : List A} {k : Nat} (d : A) (h : k < a.length) (hl : (a.length : Int) = b.length) (h1 : a.take k = b.take k) (h2 : a.getD k d = b.getD k d) : a.take (k + 1) = b.take (k + 1) := by
  rw [take_succ_getD d h, take_succ_getD d (by omega), h1, h2]
theorem eq_end {A : Type} [DecidableEq A] {a b : List A} {k : Nat} (hk : ¬ (k : Int) < (a.length : Int)) (hl : (a.length : Int) = b.length) (h1 : a.take k = b.take k) : true = decide (a = b) := by
  rw [List.take_of_length_le (by omega), List.take_of_length_le (by omega)] at h1; simp [h1]
theorem eqCon_iff {a b : Con} : decide (a = b) = (decide (a.kind = b.kind) && decide (a.vars = b.vars) && decide (a.args = b.args) && decide (a.bound = b.bound) && decide (a.rows = b.rows)) := by
  cases a; cases b; simp [and_assoc, ← Bool.decide_and]
theorem eqMod_iff {a b : Mod} : decide (a = b) = (decide (a.doms = b.doms) && decide (a.cons = b.cons)) := by
  cases a; cases b; simp [← Bool.decide_and]
theorem bne_F {a b : Bool} (h : (a != b) = false) : a = b := by simpa using h
theorem bne_T {a b : Bool} (h : (a != b) = true) : a ≠ b := by simpa using h
theorem bne_B {a b : Bool} (h : (a != b) = false) : (a == b) = true := by simpa using h
end Go.Proofs.Ytcdemjjgmnbkfaa
