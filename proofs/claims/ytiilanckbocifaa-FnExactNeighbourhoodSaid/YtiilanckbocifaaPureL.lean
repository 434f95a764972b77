/- Plain law: a neighbourhood of an assignment has the solutions that agree with it. No program in sight. Conditions: none. -/
import Derived.Test.YtiilanckbocifaaPureE
import Derived.Test.YtiilanckbocifaaRdr
namespace Go.Proofs.Ytiilanckbocifaa
open Go
set_option linter.unusedSimpArgs false
set_option linter.unusedVariables false
/-- The domains, the first k of them restricted to the values of x where the variable is not free. -/
def nearT (ds x free : List Int) : Nat → List Int
  | 0 => ds
  | k + 1 => if free.contains (k : Int) = true then nearT ds x free k else (nearT ds x free k).set k (iand ((nearT ds x free k).getD k 0) (ishl 1 (x.getD k 0)))
theorem near_T {ds x free es : List Int} {k : Nat} (h : es = nearT ds x free k) (c : free.contains (k : Int) = true) : es = nearT ds x free (k + 1) := by rw [nearT, if_pos c]; exact h
theorem near_F {ds x free es : List Int} {k : Nat} (h : es = nearT ds x free k) (c : free.contains (k : Int) = false) : es.set k (iand (es.getD k 0) (ishl 1 (x.getD k 0))) = nearT ds x free (k + 1) := by rw [nearT, if_neg (by rw [c]; simp), h]
theorem near_len (ds x free : List Int) : ∀ k, (nearT ds x free k).length = ds.length
  | 0 => rfl
  | k + 1 => by
    rw [nearT]; split
    · exact near_len ds x free k
    · rw [List.length_set]; exact near_len ds x free k
theorem near_at {ds x free : List Int} {i : Nat} (hi : i < ds.length) : ∀ k, (nearT ds x free k).getD i 0 = if i < k ∧ free.contains (i : Int) = false then iand (ds.getD i 0) (ishl 1 (x.getD i 0)) else ds.getD i 0
  | 0 => by rw [if_neg (by omega)]; rfl
  | k + 1 => by
    have ih := near_at (x := x) (free := free) hi k
    rw [nearT]
    by_cases c : free.contains (k : Int) = true
    · rw [if_pos c, ih]
      by_cases e : i = k
      · subst e; rw [if_neg (by omega), if_neg (by rw [c]; simp)]
      · by_cases h : i < k ∧ free.contains (i : Int) = false
        · rw [if_pos h, if_pos ⟨by omega, h.2⟩]
        · rw [if_neg h, if_neg (fun h2 => h ⟨by omega, h2.2⟩)]
    · rw [if_neg c]
      have c : free.contains (k : Int) = false := by simpa using c
      by_cases e : i = k
      · subst e
        rw [if_neg (by omega)] at ih
        rw [List.getD_eq_getElem?_getD, List.getElem?_set_self (by rw [near_len]; exact hi), if_pos ⟨by omega, c⟩, ih]; rfl
      · rw [List.getD_eq_getElem?_getD, List.getElem?_set_ne (fun h => e h.symm), ← List.getD_eq_getElem?_getD, ih]
        by_cases h : i < k ∧ free.contains (i : Int) = false
        · rw [if_pos h, if_pos ⟨by omega, h.2⟩]
        · rw [if_neg h, if_neg (fun h2 => h ⟨by omega, h2.2⟩)]
theorem iand_one {d v : Int} (hd : 0 ≤ d ∧ d ≤ 63) (hv : 0 ≤ v ∧ v ≤ 5) : (0 ≤ iand d (ishl 1 v) ∧ iand d (ishl 1 v) ≤ 63) ∧ valsI (iand d (ishl 1 v)) = (valsI d).filter (fun u => decide (u = v)) := by
  have key : ∀ i, i < 64 → ∀ j, j < 6 → (0 ≤ iand ((i : Nat) : Int) (ishl 1 ((j : Nat) : Int)) ∧ iand ((i : Nat) : Int) (ishl 1 ((j : Nat) : Int)) ≤ 63) ∧ valsI (iand ((i : Nat) : Int) (ishl 1 ((j : Nat) : Int))) = (valsI ((i : Nat) : Int)).filter (fun u => decide (u = ((j : Nat) : Int))) := by decide +kernel
  obtain ⟨i, rfl⟩ := Int.eq_ofNat_of_zero_le hd.1
  obtain ⟨j, rfl⟩ := Int.eq_ofNat_of_zero_le hv.1
  exact key i (by omega) j (by omega)
theorem near_ok {m : Mod} {x free : List Int} (hM : MOk m) (hx : Vals x) (hl : x.length = m.doms.length) (k : Nat) : DOk m.doms.length (nearT m.doms x free k) := ⟨near_len _ _ _ _, fun d hd => by
  obtain ⟨i, hi, rfl⟩ := List.getElem_of_mem hd
  rw [near_len] at hi
  have h := near_at (ds := m.doms) (x := x) (free := free) hi k
  rw [List.getD_eq_getElem?_getD, List.getElem?_eq_getElem (by rw [near_len]; exact hi), Option.getD_some] at h
  rw [h]; split
  · exact (iand_one (hM.dok.d.at hi) (hx.at (by omega))).1
  · exact hM.dok.d.at hi⟩
/-- The neighbourhood has the solutions that agree with x. -/
theorem near_sol {m : Mod} {x free y : List Int} (hM : MOk m) (hx : Vals x) (hl : x.length = m.doms.length) : y ∈ sols ⟨nearT m.doms x free x.length, m.cons⟩ ↔ y ∈ sols m ∧ ∀ i, i < x.length → free.contains (i : Int) = true ∨ y.getD i 0 = x.getD i 0 := by
  have hm : metB ⟨nearT m.doms x free x.length, m.cons⟩ y = metB m y := rfl
  rw [sols_mem, sols_mem, hm]
  have key : ∀ i, i < m.doms.length → (y.getD i 0 ∈ valsI ((nearT m.doms x free x.length).getD i 0) ↔ y.getD i 0 ∈ valsI (m.doms.getD i 0) ∧ (free.contains (i : Int) = true ∨ y.getD i 0 = x.getD i 0)) := fun i hi => by
    rw [near_at hi]
    cases c : free.contains (i : Int) with
    | true => rw [if_neg (by simp)]; simp
    | false => rw [if_pos ⟨by omega, rfl⟩, (iand_one (hM.dok.d.at hi) (hx.at (by omega))).2, List.mem_filter]; simp
  unfold Box
  show (y.length = (nearT m.doms x free x.length).length ∧ ∀ i, i < (nearT m.doms x free x.length).length → y.getD i 0 ∈ valsI ((nearT m.doms x free x.length).getD i 0)) ∧ _ ↔ _
  rw [near_len]
  constructor
  · rintro ⟨⟨h1, h2⟩, h3⟩
    exact ⟨⟨⟨h1, fun i hi => ((key i hi).1 (h2 i hi)).1⟩, h3⟩, fun i hi => ((key i (by omega)).1 (h2 i (by omega))).2⟩
  · rintro ⟨⟨⟨h1, h2⟩, h3⟩, h4⟩
    exact ⟨⟨h1, fun i hi => (key i hi).2 ⟨h2 i hi, h4 i (by omega)⟩⟩, h3⟩
theorem isSol_mem {m : Mod} {x : List Int} (h : isSolT m x = true) : x ∈ sols m := by
  unfold isSolT isSolB inDomB at h
  simp only [Bool.and_eq_true, decide_eq_true_eq, allInB_iff, List.all_eq_true, List.mem_range] at h
  obtain ⟨⟨_, h1, h2⟩, h3, h4⟩ := h
  refine sols_mem.2 ⟨⟨by omega, fun i hi => mem_valsI.2 ⟨h2 _ (getD_mem (by omega)), h3 i (by omega)⟩⟩, h4⟩
theorem isSol_iff {m : Mod} (hM : MOk m) {x : List Int} : isSolT m x = true ↔ x ∈ sols m := ⟨isSol_mem, sols_isSol hM⟩
def nhOk (m : Mod) (x free : List Int) : Bool := varSetI m free && (decide ((x.length : Int) = (m.doms.length : Int)) && allInB x 0 5)
def nhI (m : Mod) (x free : List Int) : Mod × Bool := if nhOk m x free = true then (⟨nearT m.doms x free x.length, m.cons⟩, true) else (⟨[], []⟩, false)
theorem nh_c {m : Mod} {x free : List Int} : (!(varSetI m free) || !(decide ((x.length : Int) = (m.doms.length : Int)) && allInB x 0 5)) = !(nhOk m x free) := by unfold nhOk; simp only [Bool.not_and]
theorem nh_cS {m : Mod} {x free : List Int} : ((!(validModB m) || !(decide ((x.length : Int) = (m.doms.length : Int)) && allInB x 0 5)) || !(varSetS m.doms.length free)) = !(nhOk m x free) := by
  unfold nhOk varSetI varsInB; rw [varSetS_eq]
  cases validModB m <;> cases (decide ((x.length : Int) = (m.doms.length : Int)) && allInB x 0 5) <;> cases ascB free <;> simp
structure NhOk (m : Mod) (x free : List Int) : Prop where
  hM : MOk m
  hx : Vals x
  hl : x.length = m.doms.length
  ha : ascB free = true
  hf : allInB free 0 ((m.doms.length : Int) - 1) = true
  hn : nhI m x free = (⟨nearT m.doms x free x.length, m.cons⟩, true)
theorem nh_ok {m : Mod} {x free : List Int} (h : nhOk m x free = true) : NhOk m x free := by
  have h0 := h
  unfold nhOk varSetI varsInB at h
  simp only [Bool.and_eq_true, decide_eq_true_eq] at h
  exact ⟨⟨h.1.2.1⟩, (allInB_iff.1 h.2.2), by omega, h.1.1, h.1.2.2, if_pos h0⟩
theorem nh_I {m : Mod} {x free : List Int} (h : (!(varSetI m free) || !(decide ((x.length : Int) = (m.doms.length : Int)) && allInB x 0 5)) = false) : NhOk m x free := nh_ok (by rw [nh_c] at h; simpa using h)
theorem nh_S {m : Mod} {x free : List Int} (h : ((!(validModB m) || !(decide ((x.length : Int) = (m.doms.length : Int)) && allInB x 0 5)) || !(varSetS m.doms.length free)) = false) : NhOk m x free := nh_ok (by rw [nh_cS] at h; simpa using h)
theorem nh_no {m : Mod} {x free : List Int} (h : (!(nhOk m x free)) = true) : nhI m x free = (⟨[], []⟩, false) := if_neg (by simpa using h)
theorem nh_noI {m : Mod} {x free : List Int} (h : (!(varSetI m free) || !(decide ((x.length : Int) = (m.doms.length : Int)) && allInB x 0 5)) = true) : nhI m x free = (⟨[], []⟩, false) := nh_no (by rw [← nh_c]; exact h)
theorem nh_noS {m : Mod} {x free : List Int} (h : ((!(validModB m) || !(decide ((x.length : Int) = (m.doms.length : Int)) && allInB x 0 5)) || !(varSetS m.doms.length free)) = true) : nhI m x free = (⟨[], []⟩, false) := nh_no (by rw [← nh_cS]; exact h)
/-! The law. -/
theorem nh_same {a b p q : Mod × Bool} (h1 : p = a) (h2 : q = a) : (p.2 == q.2 && decide (p.1 = q.1)) = true := by subst h1; subst h2; simp
theorem nh_go {m : Mod} {x free : List Int} {mq nq : Mod} {bq cq : Bool} (h1 : (mq, bq) = nhI m x free) (h2 : (nq, cq) = nhI m x free) (c : ((bq != cq || !(decide (mq = nq))) || !bq) = false) : NhOk m x free ∧ mq = ⟨nearT m.doms x free x.length, m.cons⟩ := by
  have hb : bq = true := by revert c; cases bq <;> simp
  by_cases h : nhOk m x free = true
  · have := nh_ok h
    rw [this.hn] at h1
    exact ⟨this, (Prod.mk.inj h1).1⟩
  · rw [nh_no (by simpa using h)] at h1
    have := (Prod.mk.inj h1).2; rw [hb] at this; cases this
theorem nh_ret {m : Mod} {x free : List Int} {mq nq : Mod} {bq cq : Bool} (h1 : (mq, bq) = nhI m x free) (h2 : (nq, cq) = nhI m x free) : (bq == cq && decide (mq = nq)) = true := by
  have h := h1.trans h2.symm
  obtain ⟨rfl, rfl⟩ := Prod.mk.inj h
  simp
def samI (free x y : List Int) (k : Nat) : Bool := (List.range k).all (fun i => free.contains (i : Int) || decide (y.getD i 0 = x.getD i 0))
theorem sam_step {free x y : List Int} {k : Nat} {s : Bool} (h : s = samI free x y k) : (s && (free.contains (k : Int) || decide (y.getD k 0 = x.getD k 0))) = samI free x y (k + 1) := by
  subst h; simp only [samI, List.range_succ, List.all_append, List.all_cons, List.all_nil, Bool.and_true]
theorem nh_at {m mq : Mod} {x free y : List Int} {k : Nat} {s : Bool} (hg : NhOk m x free ∧ mq = ⟨nearT m.doms x free x.length, m.cons⟩) (hy : y ∈ sols m) (hk : x.length = k) (hs : s = samI free x y k) : (isSolT mq y != s) = false := by
  obtain ⟨h, rfl⟩ := hg
  have hP := val_doms h.hM (near_ok (free := free) h.hM h.hx h.hl x.length)
  have h1 : isSolT ⟨nearT m.doms x free x.length, m.cons⟩ y = samI free x y k := by
    rw [Bool.eq_iff_iff, isSol_iff hP, near_sol h.hM h.hx h.hl, samI, List.all_eq_true]
    simp only [List.mem_range, Bool.or_eq_true, decide_eq_true_eq]
    exact ⟨fun h2 i hi => h2.2 i (by omega), fun h2 => ⟨hy, fun i hi => h2 i (by omega)⟩⟩
  rw [h1, hs]; simp
theorem asc_lt {vs : List Int} (h : ascB vs = true) {i : Nat} (h1 : 1 ≤ i) (hi : i < vs.length) : vs.getD (i - 1) 0 < vs.getD i 0 := by
  rw [ascB, List.all_eq_true] at h
  have := h i (List.mem_range.2 hi)
  unfold ascAt at this
  have e : ((i : Int) - 1).toNat = i - 1 := by omega
  rw [e, decide_eq_true (by omega : (0 : Int) < (i : Int)), Bool.true_and, Bool.not_eq_true', decide_eq_false_iff_not] at this
  omega
theorem asc_ge {vs : List Int} (h : ascB vs = true) (h0 : ∀ v ∈ vs, 0 ≤ v) : ∀ i, i < vs.length → (i : Int) ≤ vs.getD i 0
  | 0, hi => h0 _ (getD_mem hi)
  | i + 1, hi => by
    have h1 := asc_ge h h0 i (by omega)
    have h2 := asc_lt h (by omega : 1 ≤ i + 1) hi
    rw [Nat.add_sub_cancel] at h2
    omega
theorem asc_le {vs : List Int} {n : Int} (h : ascB vs = true) (h0 : ∀ v ∈ vs, v ≤ n) : ∀ j, j < vs.length → vs.getD (vs.length - 1 - j) 0 ≤ n - (j : Int)
  | 0, hj => by have := h0 _ (getD_mem (d := 0) (by omega : vs.length - 1 - 0 < vs.length)); omega
  | j + 1, hj => by
    have h1 := asc_le h h0 j (by omega)
    have h2 := asc_lt h (by omega : 1 ≤ vs.length - 1 - j) (by omega)
    rw [show vs.length - 1 - j - 1 = vs.length - 1 - (j + 1) from by omega] at h2
    omega
theorem asc_full {vs : List Int} {n : Nat} (h : ascB vs = true) (h0 : allInB vs 0 ((n : Int) - 1) = true) (hl : n ≤ vs.length) {i : Nat} (hi : i < n) : vs.contains (i : Int) = true := by
  rw [allInB_iff] at h0
  have h1 := asc_ge h (fun v hv => (h0 v hv).1) i (by omega)
  have h2 := asc_le h (fun v hv => (h0 v hv).2) (vs.length - 1 - i) (by omega)
  rw [show vs.length - 1 - (vs.length - 1 - i) = i from by omega] at h2
  have h3 : vs.getD i 0 = (i : Int) := by omega
  rw [← h3]; exact List.contains_iff_mem.2 (getD_mem (by omega))
theorem near_all {ds x free : List Int} : ∀ k, (∀ i, i < k → free.contains ((i : Nat) : Int) = true) → nearT ds x free k = ds
  | 0, _ => rfl
  | k + 1, h => by rw [nearT, if_pos (h k (by omega))]; exact near_all k (fun i hi => h i (by omega))
theorem nh_ent {m : Mod} {x free : List Int} (h : NhOk m x free) : entB ⟨nearT m.doms x free x.length, m.cons⟩ m = true := by
  have hP := val_doms h.hM (near_ok (free := free) h.hM h.hx h.hl x.length)
  unfold entB
  have : (sols ⟨nearT m.doms x free x.length, m.cons⟩).any (fun y => !(isSolB m y)) = false := by
    rw [List.any_eq_false]; intro y hy
    rw [isB_of h.hM ((near_sol h.hM h.hx h.hl).1 hy).1]; simp
  rw [this, hP.v, h.hM.v, decide_eq_true (by dsimp only; rw [near_len])]; rfl
theorem nh_fin {m mq : Mod} {x free : List Int} (hg : NhOk m x free ∧ mq = ⟨nearT m.doms x free x.length, m.cons⟩) : (entB mq m && (decide ((free.length : Int) < (x.length : Int)) || decide (mq = m))) = true := by
  obtain ⟨h, rfl⟩ := hg
  rw [nh_ent h, Bool.true_and]
  by_cases c : (free.length : Int) < (x.length : Int)
  · rw [decide_eq_true c]; rfl
  · have : nearT m.doms x free x.length = m.doms := near_all _ (fun i hi => asc_full h.ha h.hf (by rw [← h.hl]; omega) (by rw [← h.hl]; exact hi))
    rw [this]; simp
theorem eqM_no {a b : Mod} (h : (!(decide (a.doms = b.doms)) || decide ((a.cons.length : Int) ≠ (b.cons.length : Int))) = true) : false = decide (a = b) := by
  symm; refine decide_eq_false (fun e => ?_); subst e; simp at h
theorem eqM_at {a b : Mod} {k : Nat} (h : decide (a.cons.getD k nilCon = b.cons.getD k nilCon) = false) : false = decide (a = b) := by
  symm; refine decide_eq_false (fun e => ?_); subst e; simp at h
theorem eqM_end {a b : Mod} {k : Nat} (hc : (!(decide (a.doms = b.doms)) || decide ((a.cons.length : Int) ≠ (b.cons.length : Int))) = false) (hk : a.cons.length ≤ k) (h : a.cons.take k = b.cons.take k) : true = decide (a = b) := by
  symm; refine decide_eq_true ?_
  simp only [Bool.or_eq_false_iff, Bool.not_eq_false', decide_eq_true_eq, decide_eq_false_iff_not] at hc
  rw [List.take_of_length_le hk, List.take_of_length_le (by omega)] at h
  cases a; cases b; simp_all
theorem near_small {m : Mod} {x free : List Int} {n : Nat} (h : ModSm n m) (k : Nat) : ModSm n ⟨nearT m.doms x free k, m.cons⟩ := ⟨by have := h.d1; dsimp only; rw [near_len]; exact this, by have := h.d; dsimp only; rw [near_len]; exact this, h.c, h.cc⟩
end Go.Proofs.Ytiilanckbocifaa
