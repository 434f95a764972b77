/- Plain law: models without one constraint, weaker quantifiers, entailment. No program in sight. Conditions: none. -/
import Derived.Test.YtiilanckbocifaaPureX
namespace Go.Proofs.Ytiilanckbocifaa
open Go
set_option linter.unusedSimpArgs false
set_option linter.unusedVariables false
theorem wo_ok {m : Mod} (h : (!(validModB m) || !(withinB 0 0 ((m.cons.length : Int) - 1))) = false) : 0 < m.cons.length := by
  simp only [Bool.or_eq_false_iff, Bool.not_eq_false', withinB_iff] at h; omega
theorem wo_met {m : Mod} {x : List Int} (h : metB m x = true) : metB ⟨m.doms, m.cons.drop 1⟩ x = true := by
  simp only [metB, List.all_eq_true] at h ⊢
  exact fun c hc => h c (List.mem_of_mem_drop hc)
theorem wo_valid {m : Mod} (hM : MOk m) : MOk ⟨m.doms, m.cons.drop 1⟩ := by
  have h := hM.v
  refine ⟨?_⟩
  simp only [validModB, Bool.and_eq_true, decide_eq_true_eq, List.all_eq_true] at h ⊢
  exact ⟨⟨h.1.1, by rw [List.length_drop]; omega⟩, fun c hc => h.2 c (List.mem_of_mem_drop hc)⟩
theorem win_wo {m : Mod} {fa : List Bool} : ∀ (k : Nat) (x : List Int), winB m fa k x = true → winB ⟨m.doms, m.cons.drop 1⟩ fa k x = true
  | 0, x, h => wo_met h
  | k + 1, x, h => by
    rw [winB] at h ⊢
    split at h
    · rename_i hf
      rw [if_pos hf]
      rw [List.all_eq_true] at h ⊢
      exact fun v hv => win_wo k _ (h v hv)
    · rename_i hf
      rw [if_neg hf]
      rw [List.any_eq_true] at h ⊢
      obtain ⟨v, hv, h2⟩ := h
      exact ⟨v, hv, win_wo k _ h2⟩
theorem winF_set {m : Mod} (hM : MOk m) (h0 : m.doms.all (fun d => decide (d ≠ 0)) = true) {fa : List Bool} {i : Nat} (hl : fa.length = m.doms.length) : ∀ (k : Nat) (x : List Int), x.length + k = m.doms.length → winB m fa k x = true → winB m (fa.set i false) k x = true
  | 0, x, _, h => h
  | k + 1, x, hx, h => by
    have hp : x.length < m.doms.length := by omega
    have hne : valsI (m.doms.getD x.length 0) ≠ [] := valsI_ne (hM.d hp) (by have := List.all_eq_true.1 h0 _ (getD_mem (d := 0) hp); simpa using this)
    rw [winB] at h ⊢
    have ih : ∀ v, winB m fa k (x ++ [v]) = true → winB m (fa.set i false) k (x ++ [v]) = true := fun v hv => winF_set hM h0 hl k _ (by simp; omega) hv
    by_cases e : fa.getD x.length false = true
    · rw [if_pos e, List.all_eq_true] at h
      split
      · rw [List.all_eq_true]; exact fun v hv => ih v (h v hv)
      · rw [List.any_eq_true]
        obtain ⟨v, hv⟩ := List.exists_mem_of_ne_nil _ hne
        exact ⟨v, hv, ih v (h v hv)⟩
    · have e2 : ¬ (fa.set i false).getD x.length false = true := by
        intro h2
        rw [List.getD_eq_getElem?_getD, List.getElem?_set] at h2
        split at h2
        · split at h2 <;> simp at h2
        · rw [← List.getD_eq_getElem?_getD] at h2; exact e h2
      rw [if_neg e, List.any_eq_true] at h
      rw [if_neg e2, List.any_eq_true]
      obtain ⟨v, hv, h2⟩ := h
      exact ⟨v, hv, ih v h2⟩
theorem qw_g {a : Bool} {m : Mod} {fa : List Bool} (h : (a || !(qtrueB m fa)) = false) : qtrueB m fa = true := by
  simp only [Bool.or_eq_false_iff, Bool.not_eq_false'] at h; exact h.2
theorem qw_ok {m : Mod} {fa : List Bool} (h : qtrueB m fa = true) : MOk m ∧ fa.length = m.doms.length ∧ winB m fa m.doms.length [] = true := by
  unfold qtrueB at h
  simp only [Bool.and_eq_true] at h
  exact ⟨(fok h.1).1, (fok h.1).2, h.2⟩
theorem qw_step {m : Mod} {k : Nat} (hk : k < m.doms.length) (h : (m.doms.take k).all (fun d => decide (d ≠ 0)) = true) (c : ¬ m.doms.getD k 0 = 0) : (m.doms.take (k + 1)).all (fun d => decide (d ≠ 0)) = true := by
  rw [take_succ_getD 0 hk, List.all_append, h]; simpa using c
theorem qw_set {m : Mod} {fa : List Bool} {i k : Nat} (h : qtrueB m fa = true) (h0 : (m.doms.take k).all (fun d => decide (d ≠ 0)) = true) (hk : m.doms.length ≤ k) : qtrueB m (fa.set i false) = true := by
  obtain ⟨hM, hl, hw⟩ := qw_ok h
  rw [List.take_of_length_le hk] at h0
  unfold qtrueB fOkB
  rw [hM.v, List.length_set, hl, winF_set hM h0 hl _ [] (by simp) hw]; simp
theorem qw_fin {m mq : Mod} {bq : Bool} {fa : List Bool} (h : qtrueB m fa = true) (hb : bq = false ∨ (bq = true ∧ 0 < m.cons.length ∧ mq = ⟨m.doms, m.cons.drop 1⟩)) : (!bq || qtrueB mq fa) = true := by
  rcases hb with rfl | ⟨rfl, _, rfl⟩
  · rfl
  · obtain ⟨hM, hl, hw⟩ := qw_ok h
    have h9 : qtrueB ⟨m.doms, m.cons.drop 1⟩ fa = true := by
      unfold qtrueB fOkB
      rw [(wo_valid hM).v]
      dsimp only
      rw [win_wo _ _ hw, hl]; simp
    rw [h9]; rfl
/-! Entailment. -/
theorem ent_self {a : Mod} (hM : MOk a) : entB a a = true := by
  unfold entB
  have : (sols a).any (fun x => !(isSolB a x)) = false := by
    rw [List.any_eq_false]; intro x hx; rw [isB_of hM hx]; simp
  rw [hM.v, this]; simp
theorem ent_wo {a : Mod} (hM : MOk a) : entB a ⟨a.doms, a.cons.drop 1⟩ = true := by
  unfold entB
  have hP := wo_valid hM
  have : (sols a).any (fun x => !(isSolB ⟨a.doms, a.cons.drop 1⟩ x)) = false := by
    rw [List.any_eq_false]; intro x hx
    have h1 := isB_of hM hx
    have h2 : isSolB ⟨a.doms, a.cons.drop 1⟩ x = true := by
      unfold isSolB at h1 ⊢
      simp only [Bool.and_eq_true] at h1 ⊢
      exact ⟨h1.1, wo_met h1.2⟩
    rw [h2]; simp
  rw [hM.v, hP.v, this]; simp
theorem ent_ok {a b : Mod} (h : entB a b = true) : MOk a ∧ MOk b ∧ a.doms.length = b.doms.length ∧ ∀ x ∈ sols a, x ∈ sols b := by
  unfold entB at h
  simp only [Bool.and_eq_true, decide_eq_true_eq, Bool.not_eq_true', List.any_eq_false] at h
  obtain ⟨⟨⟨h1, h2⟩, h3⟩, h4⟩ := h
  refine ⟨⟨h1⟩, ⟨h2⟩, by omega, fun x hx => ?_⟩
  have h5 := h4 x hx
  have h6 : isSolB b x = true := by simpa using h5
  unfold isSolB inDomB at h6
  simp only [Bool.and_eq_true, List.all_eq_true, List.mem_range] at h6
  have hl := sols_len hx
  have hv := sols_vals hx
  exact sols_mem.2 ⟨⟨by omega, fun i hi => mem_valsI.2 ⟨hv.at (by omega), h6.1 i (by omega)⟩⟩, h6.2⟩
theorem ent_isSol {a b : Mod} (h : entB a b = true) {k : Nat} (hk : (k : Int) < ((solL a).length : Int)) : isSolT b ((solL a).getD k []) = true := by
  obtain ⟨_, hB, _, h2⟩ := ent_ok h
  exact sols_isSol hB (h2 _ (solL_mem (getD_mem (by omega))))
theorem nodup_le {A : Type} [DecidableEq A] : ∀ {xs ys : List A}, xs.Pairwise (· ≠ ·) → (∀ x ∈ xs, x ∈ ys) → xs.length ≤ ys.length
  | [], _, _, _ => Nat.zero_le _
  | x :: xs, ys, hp, h => by
    obtain ⟨h1, h2⟩ := List.pairwise_cons.1 hp
    have hx := h x (.head _)
    have ih := nodup_le (ys := ys.erase x) h2 (fun z hz => (List.mem_erase_of_ne (fun e => h1 z hz e.symm)).2 (h z (.tail _ hz)))
    rw [List.length_erase_of_mem hx] at ih
    have := List.length_pos_of_mem hx
    simp only [List.length_cons]; omega
theorem ent_cnt {a b : Mod} (h : entB a b = true) : cntI a ≤ cntI b := by
  obtain ⟨hA, hB, _, h2⟩ := ent_ok h
  rw [← cnt_yes hA.v, ← cnt_yes hB.v]
  have := nodup_le (sols_nodup a) h2
  omega
theorem ent_two {a mq : Mod} {bq : Bool} (hM : MOk a) (hb : bq = false ∨ (bq = true ∧ 0 < a.cons.length ∧ mq = ⟨a.doms, a.cons.drop 1⟩)) : (!(entB a a) || (bq && !(entB a mq))) = false := by
  rw [ent_self hM]
  rcases hb with rfl | ⟨rfl, _, rfl⟩
  · rfl
  · rw [ent_wo hM]; rfl
theorem ent_cntD {a b : Mod} (h : (!(entB a b)) = false) : decide (cntI a ≤ cntI b) = true := decide_eq_true (ent_cnt (by simpa using h))
theorem ent_fin {a b : Mod} : (!(entB a b) || decide (cntI a ≤ cntI b)) = true := by
  cases h : entB a b with
  | false => rfl
  | true => rw [decide_eq_true (ent_cnt h)]; rfl
end Go.Proofs.Ytiilanckbocifaa
