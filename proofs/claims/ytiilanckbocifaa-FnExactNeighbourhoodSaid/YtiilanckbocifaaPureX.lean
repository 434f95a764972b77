/- Plain law: entailment, propagated domains, backbones. No program in sight. Conditions: none. -/
import Derived.Test.YtiilanckbocifaaPureV
namespace Go.Proofs.Ytiilanckbocifaa
open Go
set_option linter.unusedSimpArgs false
set_option linter.unusedVariables false
def entB (a b : Mod) : Bool := (validModB a && validModB b && decide ((a.doms.length : Int) = (b.doms.length : Int))) && !((sols a).any (fun x => !(isSolB b x)))
theorem isS_B {m : Mod} {x : List Int} (hM : MOk m) (hl : x.length = m.doms.length) (hv : Vals x) : isSolS m x = isSolB m x := by
  have h := isSol_eq m x
  unfold isSolT isSolU at h
  rw [hM.v, hl, allIn_of hv] at h
  simpa using h.symm
theorem isB_of {m : Mod} (hM : MOk m) {x : List Int} (h : x ∈ sols m) : isSolB m x = true := by
  have h1 := sols_isSol hM h
  unfold isSolT at h1
  simp only [Bool.and_eq_true] at h1
  exact h1.2
def entTo (a b : Mod) (k : Nat) : Bool := ((sols a).take k).all (fun x => isSolB b x)
theorem ent_step {a b : Mod} {k : Nat} (hk : k < (sols a).length) (h : ((sols a).take k).all (fun x => isSolB b x) = true) (c : isSolB b ((sols a).getD k []) = true) : ((sols a).take (k + 1)).all (fun x => isSolB b x) = true := by
  rw [take_succ_getD [] hk, List.all_append, h]; simpa using c
theorem ent_yes {a b : Mod} {k : Nat} (c : (validModB a && validModB b && decide ((a.doms.length : Int) = (b.doms.length : Int))) = true) (h : ((sols a).take k).all (fun x => isSolB b x) = true) (hk : (sols a).length ≤ k) : true = entB a b := by
  rw [List.take_of_length_le hk] at h
  unfold entB; rw [c, Bool.true_and]
  rw [List.any_eq_not_all_not]; simp only [Bool.not_not]; exact h.symm
theorem ent_out {a b : Mod} {k : Nat} (hk : k < (sols a).length) (h : isSolB b ((sols a).getD k []) = false) : false = entB a b := by
  unfold entB
  have : (sols a).any (fun x => !(isSolB b x)) = true := List.any_eq_true.2 ⟨_, getD_mem hk, by rw [h]; rfl⟩
  rw [this]; simp
theorem ent_no {a b : Mod} (c : (validModB a && validModB b && decide ((a.doms.length : Int) = (b.doms.length : Int))) = false) : false = entB a b := by
  unfold entB; rw [c]; rfl
/-- A model with other domains. -/
theorem val_doms {m : Mod} (hM : MOk m) {es : List Int} (hd : DOk m.doms.length es) : MOk ⟨es, m.cons⟩ := by
  have h := hM.v
  have hn := hM.n
  refine ⟨?_⟩
  simp only [validModB, domainsOkB, Bool.and_eq_true, allInB_iff, decide_eq_true_eq] at h ⊢
  have e := hd.l
  refine ⟨⟨⟨?_, fun d hm => hd.d d hm⟩, h.1.2⟩, by rw [e]; exact h.2⟩
  rw [e]; exact h.1.1.1
theorem sols_doms (m : Mod) (es : List Int) : sols ⟨es, m.cons⟩ = solT m es := rfl
theorem ent_doms {a : Mod} (hM : MOk a) {es : List Int} (hd : DOk a.doms.length es) (h : solT a es = sols a) : entB a ⟨es, a.cons⟩ = true ∧ entB ⟨es, a.cons⟩ a = true := by
  have hP := val_doms hM hd
  have e : sols ⟨es, a.cons⟩ = sols a := (sols_doms a es).trans h
  have hl := hd.l
  constructor
  · unfold entB
    rw [hM.v, hP.v]
    have : (sols a).any (fun x => !(isSolB ⟨es, a.cons⟩ x)) = false := by
      rw [List.any_eq_false]; intro x hx
      rw [isB_of hP (by rw [e]; exact hx)]; simp
    rw [this]; simp [hl]
  · unfold entB
    rw [hM.v, hP.v, e]
    have : (sols a).any (fun x => !(isSolB a x)) = false := by
      rw [List.any_eq_false]; intro x hx
      rw [isB_of hM hx]; simp
    rw [this]; simp [hl]
def propI (m : Mod) : List Int := if validModB m = true then prop m m.doms else []
theorem propI_no {m : Mod} (h : (!(validModB m)) = true) : propI m = [] := if_neg (by simpa using h)
theorem propI_yes {m : Mod} (h : validModB m = true) : propI m = prop m m.doms := if_pos h
theorem propI_ok {m : Mod} (hM : MOk m) : DOk m.doms.length (propI m) := by rw [propI_yes hM.v]; exact (propOk hM hM.dok).ok
/-! The values in a list of tuples. -/
def uni (T : List (List Int)) (j : Nat) : Int := maskP (fun v => T.any (fun t => decide (v = t.getD j 0)))
def uniV (n : Nat) (T : List (List Int)) : List Int := (List.range n).map (uni T)
theorem uniV_len (n : Nat) (T : List (List Int)) : (uniV n T).length = n := by simp [uniV]
theorem uniV_at {n : Nat} {T : List (List Int)} {j : Nat} (h : j < n) : (uniV n T).getD j 0 = uni T j := by simp [uniV, List.getD, h]
theorem uniV_0 (n : Nat) : uniV n [] = List.replicate n 0 := by
  refine List.ext_getElem (by simp [uniV]) fun i h1 h2 => ?_
  simp [uniV, uni, maskP]
theorem uni_has {T : List (List Int)} {j : Nat} {v : Int} (h : 0 ≤ v ∧ v ≤ 5) : hasB (uni T j) v = true ↔ ∃ t ∈ T, v = t.getD j 0 := by
  unfold uni
  rw [maskP_has h, List.any_eq_true]
  simp only [decide_eq_true_eq]
theorem uni_or {T : List (List Int)} {t : List Int} {j : Nat} (hv : 0 ≤ t.getD j 0 ∧ t.getD j 0 ≤ 5) : ior (uni T j) (ishl 1 (t.getD j 0)) = uni (T ++ [t]) j := by
  have : uni (T ++ [t]) j = maskP (fun u => hasB (uni T j) u || decide (u = t.getD j 0)) := by
    refine maskP_congr fun v hv => ?_
    unfold uni
    rw [maskP_has hv, List.any_append]; simp
  rw [this]; exact ior_has (maskP_in _) hv
def uniM (n : Nat) (T : List (List Int)) (t : List Int) (j : Nat) : List Int := (List.range n).map (fun i => if i < j then uni (T ++ [t]) i else uni T i)
theorem uniM_0 (n : Nat) (T : List (List Int)) (t : List Int) : uniM n T t 0 = uniV n T := by simp [uniM, uniV]
theorem uniM_len (n : Nat) (T : List (List Int)) (t : List Int) (j : Nat) : (uniM n T t j).length = n := by simp [uniM]
theorem uniM_all {n : Nat} {T : List (List Int)} {t : List Int} {j : Nat} (h : n ≤ j) : uniM n T t j = uniV n (T ++ [t]) := by
  unfold uniM uniV
  refine List.map_congr_left fun i hi => ?_
  rw [if_pos (by have := List.mem_range.1 hi; omega)]
theorem uniM_at {n : Nat} {T : List (List Int)} {t : List Int} {j : Nat} (h : j < n) : (uniM n T t j).getD j 0 = uni T j := by simp [uniM, List.getD, h]
theorem uniM_in {n : Nat} {T : List (List Int)} {t : List Int} {j : Nat} (h : j < n) : 0 ≤ (uniM n T t j).getD j 0 ∧ (uniM n T t j).getD j 0 ≤ 63 := by rw [uniM_at h]; exact maskP_in _
theorem uniM_step {n : Nat} {T : List (List Int)} {t : List Int} {j : Nat} (h : j < n) (hv : 0 ≤ t.getD j 0 ∧ t.getD j 0 ≤ 5) : (uniM n T t j).set j (ior ((uniM n T t j).getD j 0) (ishl 1 (t.getD j 0))) = uniM n T t (j + 1) := by
  rw [uniM_at h, uni_or hv]
  refine List.ext_getElem (by simp [uniM]) fun i h1 h2 => ?_
  simp only [uniM, List.getElem_set, List.getElem_map, List.getElem_range]
  by_cases e : j = i
  · subst e; simp
  · rw [if_neg e]
    by_cases h3 : i < j
    · rw [if_pos h3, if_pos (by omega)]
    · rw [if_neg h3, if_neg (by omega)]
theorem uniV_dom (n : Nat) (T : List (List Int)) : DOk n (uniV n T) := ⟨uniV_len n T, fun d hd => by
  obtain ⟨j, _, rfl⟩ := List.mem_map.1 hd; exact maskP_in _⟩
theorem uni_sols {m : Mod} (hM : MOk m) : solT m (uniV m.doms.length (sols m)) = sols m := by
  have hs : SubD (uniV m.doms.length (sols m)) m.doms := ⟨uniV_len _ _, fun i hi v hv h => by
    rw [uniV_at hi, uni_has hv] at h
    obtain ⟨t, ht, e⟩ := h
    have := (sols_mem.1 ht).1.2 i hi
    rw [← e] at this
    exact (mem_valsI.1 this).2⟩
  unfold solT
  rw [tupL_sub hs, List.filter_filter]
  unfold sols solT
  refine List.filter_congr fun x hx => ?_
  by_cases hm : metB m x = true
  · rw [hm, Bool.true_and]
    have hb := mem_tupL.1 hx
    have hxs : x ∈ sols m := sols_mem.2 ⟨hb, hm⟩
    refine (boxB_iff hb.vals).2 ⟨by rw [uniV_len]; exact hb.1, fun i hi => ?_⟩
    rw [uniV_len] at hi
    rw [uniV_at hi]
    have hv := hb.vals.at (k := i) (by rw [hb.1]; exact hi)
    exact mem_valsI.2 ⟨hv, (uni_has hv).2 ⟨x, hxs, rfl⟩⟩
  · have : metB m x = false := by simpa using hm
    rw [this]; simp
def backI (m : Mod) : List Int := if validModB m = true then uniV m.doms.length (sols m) else []
theorem backI_no {m : Mod} (h : (!(validModB m)) = true) : backI m = [] := if_neg (by simpa using h)
theorem backI_yes {m : Mod} (h : validModB m = true) : backI m = uniV m.doms.length (sols m) := if_pos h
theorem backI_ok {m : Mod} (hM : MOk m) : DOk m.doms.length (backI m) := by rw [backI_yes hM.v]; exact uniV_dom _ _
theorem entp_law {a : Mod} (hM : MOk a) : entB a ⟨propI a, a.cons⟩ = true ∧ entB ⟨propI a, a.cons⟩ a = true ∧ entB a ⟨backI a, a.cons⟩ = true ∧ entB ⟨backI a, a.cons⟩ a = true := by
  have h1 := ent_doms hM (propI_ok hM) (by rw [propI_yes hM.v]; exact (propOk hM hM.dok).sol)
  have h2 := ent_doms hM (backI_ok hM) (by rw [backI_yes hM.v]; exact uni_sols hM)
  exact ⟨h1.1, h1.2, h2.1, h2.2⟩
theorem ent_g {a b : Mod} (h : ((!(validModB a) || !(validModB b)) || decide ((a.doms.length : Int) ≠ (b.doms.length : Int))) = false) : MOk a ∧ MOk b ∧ a.doms.length = b.doms.length := by
  simp only [Bool.or_eq_false_iff, Bool.not_eq_false', decide_eq_false_iff_not, Decidable.not_not] at h
  exact ⟨⟨h.1.1⟩, ⟨h.1.2⟩, by omega⟩
theorem ent_b {a b : Mod} (hg : MOk a ∧ MOk b ∧ a.doms.length = b.doms.length) : (validModB a && validModB b && decide ((a.doms.length : Int) = (b.doms.length : Int))) = true := by
  rw [hg.1.v, hg.2.1.v, hg.2.2]; simp
theorem ent_nS {a b : Mod} (h : ((!(validModB a) || !(validModB b)) || decide ((a.doms.length : Int) ≠ (b.doms.length : Int))) = true) : false = entB a b := by
  refine ent_no ?_
  revert h
  cases validModB a <;> cases validModB b <;> simp
theorem ent_at {a b : Mod} (hg : MOk a ∧ MOk b ∧ a.doms.length = b.doms.length) {k : Nat} (hk : k < (sols a).length) : isSolS b ((sols a).getD k []) = isSolB b ((sols a).getD k []) :=
  isS_B hg.2.1 (by rw [sols_len (getD_mem hk)]; exact hg.2.2) (sols_vals (getD_mem hk))
theorem ent_stepS {a b : Mod} (hg : MOk a ∧ MOk b ∧ a.doms.length = b.doms.length) {k : Nat} (hk : k < (sols a).length) (h : ((sols a).take k).all (fun x => isSolB b x) = true) (c : (!(isSolS b ((sols a).getD k []))) = false) : ((sols a).take (k + 1)).all (fun x => isSolB b x) = true :=
  ent_step hk h (by rw [← ent_at hg hk]; simpa using c)
theorem ent_outS {a b : Mod} (hg : MOk a ∧ MOk b ∧ a.doms.length = b.doms.length) {k : Nat} (hk : k < (sols a).length) (c : (!(isSolS b ((sols a).getD k []))) = true) : false = entB a b :=
  ent_out hk (by rw [← ent_at hg hk]; simpa using c)
theorem ent_iT {a b : Mod} : ((validModB a && validModB b) && decide ((a.doms.length : Int) = (b.doms.length : Int)) && !((sols a).any (fun x => !(isSolB b x)))) = entB a b := rfl
theorem entp_and {a : Mod} {c : Bool} (h : (c || !(validModB a)) = false) : MOk a := ⟨by revert h; cases validModB a <;> simp⟩
end Go.Proofs.Ytiilanckbocifaa
