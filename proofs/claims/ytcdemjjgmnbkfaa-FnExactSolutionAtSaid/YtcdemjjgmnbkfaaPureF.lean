/- The reference's walk through a graph by lists. No program in sight. Conditions: none. -/
import Derived.Test.YtcdemjjgmnbkfaaPureE
namespace Go.Proofs.Ytcdemjjgmnbkfaa
open Go
set_option linter.unusedSimpArgs false
set_option linter.unusedVariables false
def reachIn (cons : List Con) (rem : List Int) (i : Nat) (out : List Int) (u : Nat) : List Int :=
  if ((adjB cons (out.getD i 0) (u : Int) && !(rem.contains (u : Int))) && !(out.contains (u : Int))) = true then out ++ [(u : Int)] else out
def reachRow (cons : List Con) (rem : List Int) (i : Nat) (out : List Int) (k : Nat) : List Int := (List.range k).foldl (reachIn cons rem i) out
def reachGo (cons : List Con) (rem : List Int) (n : Nat) : Nat → Nat → List Int → List Int
  | 0, _, out => out
  | f + 1, i, out => if i < out.length then reachGo cons rem n f (i + 1) (reachRow cons rem i out n) else out
def reachS (m : Mod) (v : Int) (rem : List Int) : List Int := reachGo m.cons rem m.doms.length m.doms.length 0 [v]
def ROk (n : Nat) (out : List Int) : Prop := out.Nodup ∧ ∀ x ∈ out, (0 : Int) ≤ x ∧ x < n
theorem nodup_len : ∀ (n : Nat) (out : List Int), out.Nodup → (∀ x ∈ out, (0 : Int) ≤ x ∧ x < n) → out.length ≤ n
  | 0, [], _, _ => Nat.le_refl _
  | 0, x :: xs, _, h => by have := h x (.head _); omega
  | n + 1, out, hd, h => by
    have h1 : (out.filter (fun x => decide (x ≠ (n : Int)))).length ≤ n := nodup_len n _ (hd.filter _) (fun x hx => by
      obtain ⟨h2, h3⟩ := List.mem_filter.1 hx
      have := h x h2
      have h4 : x ≠ (n : Int) := by simpa using h3
      omega)
    have h2 : out.length ≤ (out.filter (fun x => decide (x ≠ (n : Int)))).length + 1 := by
      clear h1 h
      induction out with
      | nil => simp
      | cons x xs ih =>
        have hx := List.nodup_cons.1 hd
        by_cases e : x = (n : Int)
        · subst e
          have : (xs.filter (fun x => decide (x ≠ (n : Int)))) = xs := List.filter_eq_self.2 (fun a ha => by
            have : a ≠ (n : Int) := fun e => hx.1 (e ▸ ha)
            simpa using this)
          rw [List.filter_cons_of_neg (by simp), this]; simp
        · have := ih hx.2
          rw [List.filter_cons_of_pos (by simpa using e)]; simp only [List.length_cons]; omega
    omega
theorem ROk.len {n : Nat} {out : List Int} (h : ROk n out) : out.length ≤ n := nodup_len n out h.1 h.2
theorem reachRow_zero (cons : List Con) (rem : List Int) (i : Nat) (out : List Int) : reachRow cons rem i out 0 = out := rfl
theorem reachRow_succ (cons : List Con) (rem : List Int) (i : Nat) (out : List Int) (k : Nat) : reachRow cons rem i out (k + 1) = reachIn cons rem i (reachRow cons rem i out k) k := by
  simp only [reachRow, List.range_succ, List.foldl_append, List.foldl_cons, List.foldl_nil]
theorem ROk.push {n : Nat} {out : List Int} {j : Nat} (h : ROk n out) (hj : j < n) (hc : out.contains (j : Int) = false) : ROk n (out ++ [(j : Int)]) := by
  have hm : (j : Int) ∉ out := fun hm => by rw [← List.contains_iff_mem, hc] at hm; cases hm
  refine ⟨List.nodup_append.2 ⟨h.1, by simp, fun a ha b hb e => hm (by rw [List.mem_singleton.1 hb] at e; exact e ▸ ha)⟩, fun x hx => ?_⟩
  rcases List.mem_append.1 hx with hx | hx
  · exact h.2 x hx
  · rw [List.mem_singleton.1 hx]; omega
theorem reach_stepT {cons : List Con} {rem : List Int} {n k j : Nat} {out o2 : List Int} (h : o2 = reachRow cons rem k out j ∧ ROk n o2 ∧ k < o2.length) (hj : j < n)
    (c : ((adjB cons (o2.getD k 0) (j : Int) && !(rem.contains (j : Int))) && !(o2.contains (j : Int))) = true) :
    o2 ++ [(j : Int)] = reachRow cons rem k out (j + 1) ∧ ROk n (o2 ++ [(j : Int)]) ∧ k < (o2 ++ [(j : Int)]).length := by
  refine ⟨?_, h.2.1.push hj ?_, by simp only [List.length_append]; omega⟩
  · rw [reachRow_succ, ← h.1, reachIn, if_pos c]
  · rw [Bool.and_eq_true, Bool.not_eq_true'] at c; exact c.2
theorem reach_stepF {cons : List Con} {rem : List Int} {n k j : Nat} {out o2 : List Int} (h : o2 = reachRow cons rem k out j ∧ ROk n o2 ∧ k < o2.length)
    (c : ((adjB cons (o2.getD k 0) (j : Int) && !(rem.contains (j : Int))) && !(o2.contains (j : Int))) = false) :
    o2 = reachRow cons rem k out (j + 1) ∧ ROk n o2 ∧ k < o2.length := by
  refine ⟨?_, h.2⟩
  rw [reachRow_succ, ← h.1, reachIn, if_neg (by rw [c]; simp)]
theorem reach_next {cons : List Con} {rem : List Int} {n k j : Nat} {out o2 R : List Int} (h : reachGo cons rem n (n - k) k out = R ∧ ROk n out ∧ k ≤ out.length)
    (h2 : o2 = reachRow cons rem k out j ∧ ROk n o2 ∧ k < o2.length) (hj : j = n) (hk : k < out.length) : reachGo cons rem n (n - (k + 1)) (k + 1) o2 = R ∧ ROk n o2 ∧ k + 1 ≤ o2.length := by
  have := h.2.1.len
  subst hj
  obtain ⟨f, hf⟩ : ∃ f, j - k = f + 1 := ⟨j - k - 1, by omega⟩
  refine ⟨?_, h2.2.1, h2.2.2⟩
  rw [← h.1, hf, reachGo, if_pos hk, ← h2.1, show j - (k + 1) = f by omega]
theorem reach_end {cons : List Con} {rem : List Int} {n k : Nat} {out R : List Int} (h : reachGo cons rem n (n - k) k out = R ∧ ROk n out ∧ k ≤ out.length) (hk : ¬ (k : Int) < (out.length : Int)) : out = R := by
  rw [← h.1]
  cases n - k with
  | zero => rfl
  | succ f => rw [reachGo, if_neg (by omega)]
/-! What it comes to. -/
section
variable {cons : List Con} {rem : List Int} {n : Nat} {v : Nat}
abbrev Adj (cons : List Con) : Nat → Nat → Prop := fun x y => adjB cons x y = true
abbrev Gone (rem : List Int) : Nat → Prop := fun i => (i : Int) ∈ rem
/-- One row: a longer list, of connected indexes, that holds the neighbours of element i below k. -/
theorem reachRow_law {i : Nat} {out : List Int} (ho : ROk n out) (hi : i < out.length) (hc : ∀ b : Nat, (b : Int) ∈ out → Conn n (Adj cons) (Gone rem) v b) : ∀ k, k ≤ n →
    ROk n (reachRow cons rem i out k) ∧ (∃ e, reachRow cons rem i out k = out ++ e) ∧ (∀ b : Nat, (b : Int) ∈ reachRow cons rem i out k → Conn n (Adj cons) (Gone rem) v b) ∧
      ∀ b : Nat, b < k → adjB cons (out.getD i 0) b = true → (b : Int) ∉ rem → (b : Int) ∈ reachRow cons rem i out k
  | 0, _ => ⟨ho, ⟨[], by simp [reachRow_zero]⟩, hc, fun b h => absurd h (Nat.not_lt_zero b)⟩
  | k + 1, hk => by
    obtain ⟨h1, ⟨e, h2⟩, h3, h4⟩ := reachRow_law ho hi hc k (by omega)
    rw [reachRow_succ]
    have hget : (reachRow cons rem i out k).getD i 0 = out.getD i 0 := by rw [h2]; simp [List.getD_eq_getElem?_getD, List.getElem?_append_left hi]
    unfold reachIn
    by_cases c : ((adjB cons ((reachRow cons rem i out k).getD i 0) (k : Int) && !(rem.contains (k : Int))) && !((reachRow cons rem i out k).contains (k : Int))) = true
    · rw [if_pos c]
      simp only [Bool.and_eq_true, Bool.not_eq_true'] at c
      obtain ⟨⟨c1, c2⟩, c3⟩ := c
      refine ⟨h1.push (by omega) c3, ⟨e ++ [(k : Int)], by rw [h2, List.append_assoc]⟩, fun b hb => ?_, fun b hb ha hr => ?_⟩
      · rcases List.mem_append.1 hb with hb | hb
        · exact h3 b hb
        · have e : b = k := by have := List.mem_singleton.1 hb; omega
          subst e
          have hm := ho.2 _ (getD_mem (d := (0 : Int)) hi)
          obtain ⟨a, ha⟩ := Int.eq_ofNat_of_zero_le hm.1
          have hca := hc a (ha ▸ getD_mem hi)
          refine .step hca ?_ (by omega) (fun h => ?_)
          · rw [hget, ha] at c1; exact c1
          · have h' : (b : Int) ∈ rem := h
            rw [← List.contains_iff_mem, c2] at h'; cases h'
      · by_cases e : b = k
        · subst e; simp
        · exact List.mem_append_left _ (h4 b (by omega) ha hr)
    · rw [if_neg c]
      refine ⟨h1, ⟨e, h2⟩, h3, fun b hb ha hr => ?_⟩
      by_cases e : b = k
      · subst e
        rw [hget] at c
        have hr' : rem.contains (b : Int) = false := by rw [← Bool.not_eq_true, List.contains_iff_mem]; exact hr
        rw [ha, hr'] at c
        rw [← List.contains_iff_mem]
        simpa using c
      · exact h4 b (by omega) ha hr
theorem reachGo_law (hv : v < n) : ∀ (f i : Nat) (out : List Int), ROk n out → i ≤ out.length → n ≤ i + f → (v : Int) ∈ out → (∀ b : Nat, (b : Int) ∈ out → Conn n (Adj cons) (Gone rem) v b) →
    (∀ t, t < i → ∀ b : Nat, b < n → adjB cons (out.getD t 0) b = true → (b : Int) ∉ rem → (b : Int) ∈ out) →
    ∀ b : Nat, (b : Int) ∈ reachGo cons rem n f i out ↔ Conn n (Adj cons) (Gone rem) v b := by
  have fin : ∀ (i : Nat) (out : List Int), ROk n out → out.length ≤ i → (v : Int) ∈ out → (∀ b : Nat, (b : Int) ∈ out → Conn n (Adj cons) (Gone rem) v b) →
    (∀ t, t < i → ∀ b : Nat, b < n → adjB cons (out.getD t 0) b = true → (b : Int) ∉ rem → (b : Int) ∈ out) → ∀ b : Nat, (b : Int) ∈ out ↔ Conn n (Adj cons) (Gone rem) v b := by
    intro i out ho hi hvo hc ht b
    refine ⟨hc b, fun h => ?_⟩
    induction h with
    | refl => exact hvo
    | @step a c hac hp hc2 hw ih =>
      obtain ⟨t, h1, h2⟩ := List.mem_iff_getElem.1 ih
      exact ht t (by omega) c hc2 (by rw [List.getD_eq_getElem?_getD, List.getElem?_eq_getElem h1]; simpa [h2] using hp) hw
  intro f
  induction f with
  | zero =>
    intro i out ho hi hf hvo hc ht
    have := ho.len
    exact fin i out ho (by omega) hvo hc ht
  | succ f ih =>
    intro i out ho hi hf hvo hc ht
    rw [reachGo]
    by_cases h : i < out.length
    · rw [if_pos h]
      obtain ⟨h1, ⟨e, h2⟩, h3, h4⟩ := reachRow_law (cons := cons) (rem := rem) (v := v) ho h hc n (Nat.le_refl _)
      refine ih (i + 1) _ h1 (by rw [h2]; simp only [List.length_append]; omega) (by omega) (by rw [h2]; exact List.mem_append_left _ hvo) h3 (fun t htt b hb ha hr => ?_)
      have hget : ∀ t, t < out.length → (reachRow cons rem i out n).getD t 0 = out.getD t 0 := fun t ht => by rw [h2]; simp [List.getD_eq_getElem?_getD, List.getElem?_append_left ht]
      rw [hget t (by omega)] at ha
      by_cases e' : t = i
      · subst e'; exact h4 b hb ha hr
      · rw [h2]; exact List.mem_append_left _ (ht t (by omega) b hb ha hr)
    · rw [if_neg h]
      exact fin i out ho (by omega) hvo hc ht
end
theorem reachS_conn {m : Mod} {v : Nat} {rem : List Int} (hv : v < m.doms.length) (b : Nat) :
    (b : Int) ∈ reachS m v rem ↔ Conn m.doms.length (Adj m.cons) (Gone rem) v b :=
  reachGo_law hv m.doms.length 0 [(v : Int)] ⟨by simp, fun x hx => by rw [List.mem_singleton.1 hx]; omega⟩ (Nat.zero_le _) (by omega) (by simp)
    (fun b hb => by have : b = v := by have := List.mem_singleton.1 hb; omega
                    subst this; exact .refl) (fun t h => absurd h (Nat.not_lt_zero t)) b
theorem ROk.one {n : Nat} {v : Int} (h : 0 ≤ v ∧ v < n) : ROk n [v] := ⟨by simp, fun x hx => by rw [List.mem_singleton.1 hx]; exact h⟩
theorem Conn.congr {n : Nat} {p : Nat → Nat → Prop} {w w' : Nat → Prop} {v b : Nat} (e : ∀ i, i < n → (w i ↔ w' i)) (h : Conn n p w v b) : Conn n p w' v b := by
  induction h with
  | refl => exact .refl
  | step _ hp hc hw ih => exact .step ih hp hc (fun h => hw ((e _ hc).2 h))
end Go.Proofs.Ytcdemjjgmnbkfaa
