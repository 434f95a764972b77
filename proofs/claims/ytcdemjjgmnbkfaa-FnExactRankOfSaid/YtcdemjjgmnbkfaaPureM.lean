/- Marks: what the marking functions count. No program in sight. Conditions: none. -/
import Derived.Test.YtcdemjjgmnbkfaaPureG
import Derived.Test.YtcdemjjgmnbkfaaMut
namespace Go.Proofs.Ytcdemjjgmnbkfaa
open Go
set_option linter.unusedSimpArgs false
set_option linter.unusedVariables false
theorem getD_map {A N : Type} {m : A → N} {q a : List A} (l : q.map m = a.map m) (d : A) (k : Nat) : m (q.getD k d) = m (a.getD k d) := by
  have h := congrArg (fun z => z[k]?) l
  simp only [List.getElem?_map] at h
  rw [List.getD_eq_getElem?_getD, List.getD_eq_getElem?_getD]
  cases h1 : q[k]? <;> cases h2 : a[k]? <;> simp_all
theorem getD_len {q a : List (List Int)} (l : q.map List.length = a.map List.length) (k : Nat) : (q.getD k []).length = (a.getD k []).length := getD_map l [] k
theorem rsum_of {q a : List (List Int)} (l : q.map List.length = a.map List.length) : rsum q = rsum a := by simp only [rsum, l]
theorem conSz_of {c c' : Con} (h : conSz c' = conSz c) : c'.vars.length = c.vars.length ∧ c'.args.length = c.args.length ∧ c'.rows.length = c.rows.length ∧ rsum c'.rows = rsum c.rows := by
  simp only [conSz, Prod.mk.injEq] at h
  exact ⟨h.1, h.2.1, len_of h.2.2, rsum_of h.2.2⟩
theorem getD_con {q a : List Con} (l : q.map conSz = a.map conSz) (k : Nat) : (q.getD k nilCon).vars.length = (a.getD k nilCon).vars.length ∧ (q.getD k nilCon).args.length = (a.getD k nilCon).args.length ∧ (q.getD k nilCon).rows.length = (a.getD k nilCon).rows.length ∧ rsum (q.getD k nilCon).rows = rsum (a.getD k nilCon).rows := conSz_of (getD_map l nilCon k)
def mcN (c : Con) : Nat := 2 + c.vars.length + c.args.length + rsum c.rows
def msum (cs : List Con) : Nat := (cs.map mcN).sum
theorem msum_of {q a : List Con} (l : q.map conSz = a.map conSz) : msum q = msum a := by
  have : q.map mcN = a.map mcN := by
    have e : ∀ c : Con, mcN c = (fun (z : Nat × Nat × List Nat) => 2 + z.1 + z.2.1 + z.2.2.sum) (conSz c) := fun c => rfl
    have e2 : mcN = (fun (z : Nat × Nat × List Nat) => 2 + z.1 + z.2.1 + z.2.2.sum) ∘ conSz := funext e
    rw [e2, ← List.map_map, ← List.map_map, l]
  simp only [msum, this]
theorem msum_step {xs : List Con} {k : Nat} (h : k < xs.length) : msum (xs.take (k + 1)) = msum (xs.take k) + mcN (xs.getD k nilCon) := by
  rw [take_succ_getD nilCon h]; simp [msum]
theorem msum_le (xs : List Con) (k : Nat) : msum (xs.take k) ≤ msum xs := by simp only [msum, List.map_take]; exact sum_take_le _ _
theorem msum_csum (cs : List Con) : msum cs ≤ 2 * cs.length + csum cs := by
  induction cs with
  | nil => simp [msum]
  | cons c cs ih =>
    simp only [msum, csum, List.map_cons, List.sum_cons, List.length_cons] at *
    have : mcN c ≤ 2 + conN c := by simp only [mcN, conN]; omega
    omega
theorem SmallM.marks {m : Mod} (h : SmallM m) : m.doms.length + msum m.cons ≤ 4194304 := by
  have := msum_csum m.cons
  simp only [SmallM, modN] at h; omega
/-- The list while it is being marked, and behind it. -/
def markL (k : Int) (n : Nat) : List Int := (List.range n).map (fun (j : Nat) => k + (j : Int))
def markTo (k : Int) (a : List Int) (i : Nat) : List Int := markL k i ++ a.drop i
theorem mark_len {k : Int} {a : List Int} {i : Nat} (h : i ≤ a.length) : (markTo k a i).length = a.length := by simp [markTo, markL]; omega
theorem mark_step {k l : Int} {a : List Int} {i : Nat} (e : l = k + (i : Int)) (h : i < a.length) : (markTo k a i).set i l = markTo k a (i + 1) := by
  subst e
  unfold markTo
  rw [List.set_append_right _ _ (by simp [markL])]
  have e1 : i - (markL k i).length = 0 := by simp [markL]
  rw [e1, List.drop_eq_getElem_cons h, List.set_cons_zero]
  simp [markL, List.range_succ]
theorem mark_end {k : Int} {a : List Int} {i : Nat} (h : i = a.length) : markTo k a i = markL k a.length := by subst h; simp [markTo]
theorem markL_get {k : Int} {n i : Nat} (h : i < n) : (markL k n).getD i 0 = k + (i : Int) := by
  simp [markL, List.getD_eq_getElem?_getD, h]
theorem markL_len (k : Int) (n : Nat) : (markL k n).length = n := by simp [markL]
/-- Whether a list is marked from k on: what the test returns. -/
def heldI (a : List Int) (k : Int) : Int := if a = markL k a.length then k + (a.length : Int) else -1
theorem held_no {a : List Int} {k l : Int} {i : Nat} (hi : i < a.length) (e : l = k + (i : Int)) (h : a.getD i 0 ≠ l) : (-1 : Int) = heldI a k := by
  unfold heldI; rw [if_neg]; intro h1
  refine h ?_
  rw [h1, markL_get hi, e]
theorem held_yes {a : List Int} {k l : Int} {i : Nat} (hi : ¬ (i : Int) < (a.length : Int)) (hk : i ≤ a.length) (e : l = k + (i : Int) ∧ a.take i = markL k i) : l = heldI a k := by
  obtain ⟨e1, e2⟩ := e
  have h : i = a.length := by omega
  subst h
  rw [List.take_of_length_le (Nat.le_refl _)] at e2
  unfold heldI; rw [if_pos e2, e1]
theorem held_step {a : List Int} {k l : Int} {i : Nat} (hi : i < a.length) (e : l = k + (i : Int)) (h1 : a.take i = markL k i) (h : a.getD i 0 = l) : a.take (i + 1) = markL k (i + 1) := by
  rw [take_succ_getD 0 hi, h1, h, e]; simp [markL, List.range_succ]
theorem held_mark (k : Int) (n : Nat) : heldI (markL k n) k = k + (n : Int) := by unfold heldI; rw [markL_len, if_pos rfl]
end Go.Proofs.Ytcdemjjgmnbkfaa
