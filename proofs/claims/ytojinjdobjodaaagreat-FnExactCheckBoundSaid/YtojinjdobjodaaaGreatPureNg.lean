/- Plain law: a nogood excludes no solution. No program in sight. Conditions: none. -/
import Derived.Test.YtojinjdobjodaaaGreatSrt
namespace Go.Proofs.YtojinjdobjodaaaGreat
open Go
set_option linter.unusedSimpArgs false
set_option linter.unusedVariables false
def negL (l : Lit) : Lit := ⟨l.var, l.val, !l.neg⟩
def negTo (c : List Lit) (k : Nat) : List Lit := (c.take k).map negL
theorem negTo_step {c out : List Lit} {k : Nat} (h : out = negTo c k) (hk : k < c.length) : out ++ [⟨(c.getD k nilLit).var, (c.getD k nilLit).val, !(c.getD k nilLit).neg⟩] = negTo c (k + 1) := by
  rw [h, negTo, negTo, take_succ_getD nilLit hk, List.map_append]; rfl
theorem negL_inj {a b : Lit} (h : negL a = negL b) : a = b := by
  obtain ⟨a1, a2, a3⟩ := a
  obtain ⟨b1, b2, b3⟩ := b
  simp only [negL, Lit.mk.injEq] at h
  obtain ⟨rfl, rfl, h⟩ := h
  cases a3 <;> cases b3 <;> simp_all
theorem neg_nodup {c : List Lit} (h : c.Nodup) : (c.map negL).Nodup := by
  rw [List.nodup_iff_pairwise_ne, List.pairwise_map]
  exact (List.nodup_iff_pairwise_ne.1 h).imp fun h e => h (negL_inj e)
theorem litLt_trans {a b d : Lit} (h : litLt a b = true) (g : litLt b d = true) : litLt a d = true := by
  rw [litLt_iff] at *
  rcases h with h | ⟨h1, h | ⟨h2, h3, h4⟩⟩ <;> rcases g with g | ⟨g1, g | ⟨g2, g3, g4⟩⟩
  · exact .inl (by omega)
  · exact .inl (by omega)
  · exact .inl (by omega)
  · exact .inl (by omega)
  · exact .inr ⟨by omega, .inl (by omega)⟩
  · exact .inr ⟨by omega, .inl (by omega)⟩
  · exact .inl (by omega)
  · exact .inr ⟨by omega, .inl (by omega)⟩
  · rw [g3] at h4; cases h4
theorem cl_lt {n : Int} {c : List Lit} (h : clTo n c c.length = true) : ∀ (j i : Nat), i < j → j < c.length → litLt (c.getD i nilLit) (c.getD j nilLit) = true
  | 0, i, hi, _ => absurd hi (Nat.not_lt_zero _)
  | j + 1, i, hi, hj => by
    have h1 := List.all_eq_true.1 h (j + 1) (List.mem_range.2 hj)
    unfold clAt at h1
    rw [decide_eq_true (by omega : (0 : Int) < ((j + 1 : Nat) : Int)), show (((j + 1 : Nat) : Int) - 1).toNat = j from by omega] at h1
    simp only [Bool.and_eq_true, Bool.true_and, Bool.not_not] at h1
    by_cases e : i = j
    · subst e; exact h1.2
    · exact litLt_trans (cl_lt h j i (by omega) (by omega)) h1.2
theorem litLt_irr (a : Lit) : litLt a a = false := by
  rw [Bool.eq_false_iff]; intro h
  rw [litLt_iff] at h
  rcases h with h | ⟨_, h | ⟨_, h1, h2⟩⟩
  · omega
  · omega
  · rw [h1] at h2; cases h2
theorem cl_nodup {n : Int} {c : List Lit} (h : clI n c = true) : c.Nodup ∧ c.length ≤ 12 ∧ ∀ l ∈ c, litOkB n l = true := by
  unfold clI at h
  simp only [Bool.and_eq_true, decide_eq_true_eq] at h
  refine ⟨?_, by omega, fun l hl => ?_⟩
  · rw [List.nodup_iff_pairwise_ne, List.pairwise_iff_getElem]
    intro i j hi hj hij e
    have := cl_lt h.1 j i hij hj
    rw [List.getD_eq_getElem?_getD, List.getD_eq_getElem?_getD, List.getElem?_eq_getElem hi, List.getElem?_eq_getElem hj, Option.getD_some, Option.getD_some, e, litLt_irr] at this
    cases this
  · obtain ⟨i, hi, rfl⟩ := List.getElem_of_mem hl
    have := litOk_at h.1 hi
    rwa [List.getD_eq_getElem?_getD, List.getElem?_eq_getElem hi, Option.getD_some] at this
structure NegR (c rq : List Lit) : Prop where
  perm : rq.Perm (c.map negL)
  srt : SrtL litCmp nilLit rq
theorem srt_adj {ys zs : List Lit} {k : Nat} (hn : zs.Nodup) (hp : ys.Perm zs) (h0 : 0 < k) (hk : k < ys.length) : ys.getD k nilLit ≠ ys.getD (k - 1) nilLit := by
  have h := List.nodup_iff_pairwise_ne.1 (hp.symm.nodup hn)
  rw [List.pairwise_iff_getElem] at h
  have := h (k - 1) k (by omega) hk (by omega)
  rw [List.getD_eq_getElem?_getD, List.getD_eq_getElem?_getD, List.getElem?_eq_getElem hk, List.getElem?_eq_getElem (show k - 1 < ys.length by omega), Option.getD_some, Option.getD_some]
  exact fun e => this e.symm
theorem neg_pre {c out : List Lit} {k : Nat} (hn : c.Nodup) (h : out = negTo c k) (hk : c.length ≤ k) (hl : c.length ≤ 12) : out.Nodup ∧ out.length ≤ 12 ∧ out = c.map negL := by
  rw [h, negTo, List.take_of_length_le hk]
  exact ⟨neg_nodup hn, by simpa using hl, rfl⟩
theorem srt_cpt {c ys : List Lit} (hn : c.Nodup) (h : SrtA litCmp nilLit c ys c.length) : (∀ k : Nat, 0 < k → k < ys.length → ys.getD k nilLit ≠ ys.getD ((k : Int) - 1).toNat nilLit) ∧ ys.length ≤ c.length ∧ ys.Perm c ∧ SrtL litCmp nilLit ys := by
  have hl := h.perm.length_eq
  refine ⟨fun k h0 hk => ?_, by omega, h.perm, h.all (by omega)⟩
  rw [show ((k : Int) - 1).toNat = k - 1 from by omega]
  exact srt_adj hn h.perm h0 hk
end Go.Proofs.YtojinjdobjodaaaGreat
