/- Plain law: a nogood excludes no solution. No program in sight. Conditions: none. -/
import Derived.Test.YtiilanckbocifaaGreatSrt
namespace Go.Proofs.YtiilanckbocifaaGreat
open Go
set_option linter.unusedSimpArgs false
set_option linter.unusedVariables false
def negL (l : Lit) : Lit := ⟨l.var, l.val, !l.neg⟩
def negTo (c : List Lit) (k : Nat) : List Lit := (c.take k).map negL
theorem negTo_step {c out : List Lit} {k : Nat} (h : out = negTo c k) (hk : k < c.length) : out ++ [⟨(c.getD k nilLit).var, (c.getD k nilLit).val, !(c.getD k nilLit).neg⟩] = negTo c (k + 1) := by
  rw [h, negTo, negTo, take_succ_getD nilLit hk, List.map_append]; rfl
theorem negL_inj {a b : Lit} (h : negL a = negL b) : a = b := by
  obtain ⟨a1, a2, a3⟩ := a
  obtain ⟨b1, b2, b3⟩ := b
  simp only [negL, Lit.mk.injEq] at h
  obtain ⟨rfl, rfl, h⟩ := h
  cases a3 <;> cases b3 <;> simp_all
theorem neg_nodup {c : List Lit} (h : c.Nodup) : (c.map negL).Nodup := by
  rw [List.nodup_iff_pairwise_ne, List.pairwise_map]
  exact (List.nodup_iff_pairwise_ne.1 h).imp fun h e => h (negL_inj e)
theorem litLt_trans {a b d : Lit} (h : litLt a b = true) (g : litLt b d = true) : litLt a d = true := by
  rw [litLt_iff] at *
  rcases h with h | ⟨h1, h | ⟨h2, h3, h4⟩⟩ <;> rcases g with g | ⟨g1, g | ⟨g2, g3, g4⟩⟩
  · exact .inl (by omega)
  · exact .inl (by omega)
  · exact .inl (by omega)
  · exact .inl (by omega)
  · exact .inr ⟨by omega, .inl (by omega)⟩
  · exact .inr ⟨by omega, .inl (by omega)⟩
  · exact .inl (by omega)
  · exact .inr ⟨by omega, .inl (by omega)⟩
  · rw [g3] at h4; cases h4
theorem cl_lt {n : Int} {c : List Lit} (h : clTo n c c.length = true) : ∀ (j i : Nat), i < j → j < c.length → litLt (c.getD i nilLit) (c.getD j nilLit) = true
  | 0, i, hi, _ => absurd hi (Nat.not_lt_zero _)
  | j + 1, i, hi, hj => by
    have h1 := List.all_eq_true.1 h (j + 1) (List.mem_range.2 hj)
    unfold clAt at h1
    rw [decide_eq_true (by omega : (0 : Int) < ((j + 1 : Nat) : Int)), show (((j + 1 : Nat) : Int) - 1).toNat = j from by omega] at h1
    simp only [Bool.and_eq_true, Bool.true_and, Bool.not_not] at h1
    by_cases e : i = j
    · subst e; exact h1.2
    · exact litLt_trans (cl_lt h j i (by omega) (by omega)) h1.2
theorem litLt_irr (a : Lit) : litLt a a = false := by
  rw [Bool.eq_false_iff]; intro h
  rw [litLt_iff] at h
  rcases h with h | ⟨_, h | ⟨_, h1, h2⟩⟩
  · omega
  · omega
  · rw [h1] at h2; cases h2
theorem cl_nodup {n : Int} {c : List Lit} (h : clI n c = true) : c.Nodup ∧ c.length ≤ 12 ∧ ∀ l ∈ c, litOkB n l = true := by
  unfold clI at h
  simp only [Bool.and_eq_true, decide_eq_true_eq] at h
  refine ⟨?_, by omega, fun l hl => ?_⟩
  · rw [List.nodup_iff_pairwise_ne, List.pairwise_iff_getElem]
    intro i j hi hj hij e
    have := cl_lt h.1 j i hij hj
    rw [List.getD_eq_getElem?_getD, List.getD_eq_getElem?_getD, List.getElem?_eq_getElem hi, List.getElem?_eq_getElem hj, Option.getD_some, Option.getD_some, e, litLt_irr] at this
    cases this
  · obtain ⟨i, hi, rfl⟩ := List.getElem_of_mem hl
    have := litOk_at h.1 hi
    rwa [List.getD_eq_getElem?_getD, List.getElem?_eq_getElem hi, Option.getD_some] at this
structure NegR (c rq : List Lit) : Prop where
  perm : rq.Perm (c.map negL)
  srt : SrtL litCmp nilLit rq
theorem srt_adj {ys zs : List Lit} {k : Nat} (hn : zs.Nodup) (hp : ys.Perm zs) (h0 : 0 < k) (hk : k < ys.length) : ys.getD k nilLit ≠ ys.getD (k - 1) nilLit := by
  have h := List.nodup_iff_pairwise_ne.1 (hp.symm.nodup hn)
  rw [List.pairwise_iff_getElem] at h
  have := h (k - 1) k (by omega) hk (by omega)
  rw [List.getD_eq_getElem?_getD, List.getD_eq_getElem?_getD, List.getElem?_eq_getElem hk, List.getElem?_eq_getElem (show k - 1 < ys.length by omega), Option.getD_some, Option.getD_some]
  exact fun e => this e.symm
theorem neg_valid {n : Int} {c rq : List Lit} (h : clI n c = true) (hr : NegR c rq) : clI n rq = true := by
  obtain ⟨h1, h2, h3⟩ := cl_nodup h
  have hl : rq.length = c.length := by rw [hr.perm.length_eq, List.length_map]
  unfold clI at h ⊢
  simp only [Bool.and_eq_true, decide_eq_true_eq] at h ⊢
  refine ⟨?_, h.2.1, by omega⟩
  unfold clTo
  rw [List.all_eq_true]
  intro i hi
  have hi : i < rq.length := List.mem_range.1 hi
  have hm : rq.getD i nilLit ∈ c.map negL := hr.perm.subset (getD_mem hi)
  obtain ⟨l, hl1, hl2⟩ := List.mem_map.1 hm
  unfold clAt
  rw [Bool.and_eq_true]
  refine ⟨by rw [← hl2]; exact h3 l hl1, ?_⟩
  by_cases h0 : i = 0
  · subst h0; simp
  · rw [decide_eq_true (by omega : (0 : Int) < (i : Int)), Bool.true_and, Bool.not_not, show ((i : Int) - 1).toNat = i - 1 from by omega]
    have g1 := hr.srt (i - 1) i (by omega) hi
    have g2 := srt_adj (neg_nodup h1) hr.perm (by omega : 0 < i) hi
    rw [← litC_iff]
    exact Decidable.byContradiction fun g3 => g2 (litC_anti g1 g3)
theorem neg_any {c rq : List Lit} {x : List Int} (hc : ∀ l ∈ c, 0 ≤ l.val ∧ l.val ≤ 5) (hx : ∀ l ∈ c, 0 ≤ x.getD l.var.toNat 0 ∧ x.getD l.var.toNat 0 ≤ 5) (hr : NegR c rq) :
    rq.any (fun l => hasB (truesI l) (x.getD l.var.toNat 0)) = !(allT c x) := by
  have e1 : rq.any (fun l => hasB (truesI l) (x.getD l.var.toNat 0)) = (c.map negL).any (fun l => hasB (truesI l) (x.getD l.var.toNat 0)) := by
    rw [Bool.eq_iff_iff, List.any_eq_true, List.any_eq_true]
    exact ⟨fun ⟨l, h1, h2⟩ => ⟨l, hr.perm.subset h1, h2⟩, fun ⟨l, h1, h2⟩ => ⟨l, hr.perm.symm.subset h1, h2⟩⟩
  rw [e1, List.any_map]
  unfold allT
  rw [Bool.eq_iff_iff, List.any_eq_true, Bool.not_eq_true', List.all_eq_false]
  have key : ∀ l ∈ c, (hasB (truesI (negL l)) (x.getD (negL l).var.toNat 0)) = !(holdL x l) := fun l hl => by
    rw [show (negL l).var = l.var from rfl, trues_has (l := negL l) (hc l hl) (hx l hl)]
    show (decide (x.getD l.var.toNat 0 = l.val) != !l.neg) = !(decide (x.getD l.var.toNat 0 = l.val) != l.neg)
    cases decide (x.getD l.var.toNat 0 = l.val) <;> cases l.neg <;> rfl
  constructor
  · rintro ⟨l, h1, h2⟩
    refine ⟨l, h1, ?_⟩
    rw [Function.comp_apply, key l h1] at h2
    simpa using h2
  · rintro ⟨l, h1, h2⟩
    exact ⟨l, h1, by rw [Function.comp_apply, key l h1]; simpa using h2⟩
def chB (c : List Lit) (x : List Int) : Bool := ((withinB (x.length : Int) 1 4 && allInB x 0 5) && clI (x.length : Int) c) && c.any (fun l => hasB (truesI l) (x.getD l.var.toNat 0))
def nogB (m : Mod) (c : List Lit) : Bool := litsB m c && !((sols m).any (fun x => allT c x))
theorem ch_no {c : List Lit} {x : List Int} (h : (((!(withinB (x.length : Int) 1 4)) || !(allInB x 0 5)) || !(clI (x.length : Int) c)) = true) : false = chB c x := by
  unfold chB; revert h
  cases withinB (x.length : Int) 1 4 <;> cases allInB x 0 5 <;> cases clI (x.length : Int) c <;> simp
theorem ch_go {c : List Lit} {x : List Int} (h : (((!(withinB (x.length : Int) 1 4)) || !(allInB x 0 5)) || !(clI (x.length : Int) c)) = false) : (∀ l ∈ c, (0 ≤ l.var ∧ l.var < (x.length : Int)) ∧ (0 ≤ l.val ∧ l.val ≤ 5)) ∧ Vals x ∧ ((withinB (x.length : Int) 1 4 && allInB x 0 5) && clI (x.length : Int) c) = true := by
  have h1 : ((withinB (x.length : Int) 1 4 && allInB x 0 5) && clI (x.length : Int) c) = true := by
    revert h
    cases withinB (x.length : Int) 1 4 <;> cases allInB x 0 5 <;> cases clI (x.length : Int) c <;> simp
  have h2 := h1
  simp only [Bool.and_eq_true] at h2
  refine ⟨fun l hl => ?_, vals_of h2.1.2, h1⟩
  have := (cl_nodup h2.2).2.2 l hl
  simp only [litOkB, Bool.and_eq_true, withinB_iff] at this
  omega
theorem ch_yes {c : List Lit} {x : List Int} (h : ((withinB (x.length : Int) 1 4 && allInB x 0 5) && clI (x.length : Int) c) = true) : c.any (fun l => hasB (truesI l) (x.getD l.var.toNat 0)) = chB c x := by unfold chB; rw [h]; rfl
theorem ch_sol {m : Mod} {c rq : List Lit} {x : List Int} (hl : litsB m c = true) (hr : NegR c rq) (hx : x ∈ sols m) : chB rq x = !(allT c x) := by
  have hok := lits_ok hl
  have hlen := sols_len hx
  have hv := sols_vals hx
  have hn := hok.hM.n
  have hc : clI (m.doms.length : Int) c = true := by unfold litsB at hl; rw [Bool.and_eq_true] at hl; exact hl.2
  have hat : ∀ l ∈ c, 0 ≤ x.getD l.var.toNat 0 ∧ x.getD l.var.toNat 0 ≤ 5 := fun l h => hv.at (k := l.var.toNat) (by have := (hok.h l h).1; omega)
  unfold chB
  rw [hlen, neg_valid hc hr, show withinB (m.doms.length : Int) 1 4 = true by unfold withinB; simp; omega, neg_any (fun l h => (hok.h l h).2) hat hr, show allInB x 0 5 = true from allInB_iff.2 hv]
  rfl
theorem nog_cw {m : Mod} {c : List Lit} (h : litsB m c = true) : nogB m c = decide (cwI m c = 0) := by
  unfold nogB
  rw [cw_eq h, h, Bool.true_and, Bool.eq_iff_iff, Bool.not_eq_true', List.any_eq_false, decide_eq_true_eq]
  constructor
  · intro h1
    have : (sols m).filter (allT c) = [] := List.filter_eq_nil_iff.2 h1
    rw [this]; rfl
  · intro h1 x hx hc
    have : x ∈ (sols m).filter (allT c) := List.mem_filter.2 ⟨hx, hc⟩
    have := List.length_pos_of_mem this
    omega
theorem ng_go {m : Mod} {c : List Lit} {a : Bool} (h : ((a || !(validModB m)) || !(clI (m.doms.length : Int) c)) = false) : litsB m c = true := by
  unfold litsB; revert h; cases a <;> cases validModB m <;> cases clI (m.doms.length : Int) c <;> simp
theorem ng_step {m : Mod} {c rq : List Lit} {k : Nat} {b : Bool} (hl : litsB m c = true) (hr : NegR c rq) (hk : k < (solL m).length) (h : b = ((solL m).take k).all (fun x => !(allT c x))) : (b && chB rq ((solL m).getD k [])) = ((solL m).take (k + 1)).all (fun x => !(allT c x)) := by
  rw [take_succ_getD [] hk, List.all_append, ← h, ch_sol hl hr (solL_mem (getD_mem hk))]; simp
theorem ng_fin {m : Mod} {c : List Lit} {k : Nat} {b f : Bool} (hf : f = true) (hl : litsB m c = true) (hk : k = (solL m).length) (h : b = ((solL m).take k).all (fun x => !(allT c x))) :
    ((f && (nogB m c == decide (cwI m c = 0))) && (decide ((20 : Int) < cntI m) || (nogB m c == b))) = true := by
  subst hf
  rw [nog_cw hl]
  by_cases hc : (20 : Int) < cntI m
  · simp [hc]
  · have hs := solL_all (by omega) (lits_ok hl).hM.v
    have : b = decide (cwI m c = 0) := by
      rw [h, hk, List.take_length, hs, ← nog_cw hl]
      unfold nogB
      rw [hl, Bool.true_and, Bool.eq_iff_iff, List.all_eq_true, Bool.not_eq_true', List.any_eq_false]
      exact forall_congr' fun x => forall_congr' fun _ => by simp
    rw [this]; simp
theorem nog_no {m : Mod} {c : List Lit} (h : (!(litsB m c)) = true) : false = nogB m c := by unfold nogB; rw [show litsB m c = false by simpa using h]; rfl
theorem nog_hit {m : Mod} {c : List Lit} {k : Nat} (hk : k < (sols m).length) (h : allT c ((sols m).getD k []) = true) : false = nogB m c := by
  unfold nogB
  rw [show (sols m).any (fun x => allT c x) = true from List.any_eq_true.2 ⟨_, getD_mem hk, h⟩]; simp
theorem nog_end {m : Mod} {c : List Lit} {k : Nat} (h0 : (!(litsB m c)) = false) (hk : (sols m).length ≤ k) (h : ((sols m).take k).any (fun x => allT c x) = false) : true = nogB m c := by
  rw [List.take_of_length_le hk] at h
  unfold nogB; rw [show litsB m c = true by simpa using h0, h]; rfl
theorem nog_I {m : Mod} {c : List Lit} : (litsB m c && !((sols m).any (fun x => allT c x))) = nogB m c := rfl
theorem ng_cl {m : Mod} {c : List Lit} (h : litsB m c = true) : clI (m.doms.length : Int) c = true := by unfold litsB at h; rw [Bool.and_eq_true] at h; exact h.2
theorem neg_pre {c out : List Lit} {k : Nat} (hn : c.Nodup) (h : out = negTo c k) (hk : c.length ≤ k) (hl : c.length ≤ 12) : out.Nodup ∧ out.length ≤ 12 ∧ out = c.map negL := by
  rw [h, negTo, List.take_of_length_le hk]
  exact ⟨neg_nodup hn, by simpa using hl, rfl⟩
theorem SrtA.le {A : Type} {c : A → A → Int} {d : A} {xs ys : List A} {i n : Nat} (h : SrtA c d xs ys i) (hn : n ≤ i) : SrtA c d xs ys n := ⟨h.perm, fun p q h1 h2 => h.srt p q h1 (by omega)⟩
theorem srt_cpt {c ys : List Lit} (hn : c.Nodup) (h : SrtA litCmp nilLit c ys c.length) : (∀ k : Nat, 0 < k → k < ys.length → ys.getD k nilLit ≠ ys.getD ((k : Int) - 1).toNat nilLit) ∧ ys.length ≤ c.length ∧ ys.Perm c ∧ SrtL litCmp nilLit ys := by
  have hl := h.perm.length_eq
  refine ⟨fun k h0 hk => ?_, by omega, h.perm, h.all (by omega)⟩
  rw [show ((k : Int) - 1).toNat = k - 1 from by omega]
  exact srt_adj hn h.perm h0 hk
end Go.Proofs.YtiilanckbocifaaGreat
