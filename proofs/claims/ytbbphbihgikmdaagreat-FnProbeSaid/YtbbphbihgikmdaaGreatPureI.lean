/- Plain law: probing a value; propagation is monotone. No program in sight. Conditions: none. -/
import Derived.Test.YtbbphbihgikmdaaGreatPureA
import Derived.Test.YtbbphbihgikmdaaGreatPureX
import Derived.Test.YtbbphbihgikmdaaGreatPureN
namespace Go.Proofs.YtbbphbihgikmdaaGreat
open Go
set_option linter.unusedSimpArgs false
set_option linter.unusedVariables false
theorem filt_mono {c : Con} {n : Nat} {es ds : List Int} (hc : ConOk c n) (he : es.length = n) (hd : ds.length = n) (hs : SubD es ds) : SubD (filtL c es) (filtL c ds) := ⟨by rw [filtL_len, filtL_len, hs.1], fun i hi v hv h => by
  rw [filtL_len] at hi
  rcases filt_cases hc he (i := i) (by omega) with ⟨j, hj, e, e2⟩ | ⟨h1, e2⟩ <;> rcases filt_cases hc hd (i := i) (by omega) with ⟨j', hj', e', e2'⟩ | ⟨h1', e2'⟩
  · have hjj : j = j' := hc.inj hj hj' (by omega)
    subst hjj
    rw [e2] at h; rw [e2']
    obtain ⟨t, ht, hs2, hvt⟩ := (supp_has hv).1 h
    refine (supp_has hv).2 ⟨t, ?_, hs2, hvt⟩
    have hb := mem_tupL.1 ht
    refine mem_tupL.2 ⟨by rw [hb.1]; simp [wordL], fun k hk => ?_⟩
    have hk' : k < c.vars.length := by simpa [wordL] using hk
    have hx := hb.2 k (by simpa [wordL] using hk')
    rw [word_at hk'] at hx ⊢
    have hat := hc.at hk'
    rw [mem_valsI] at hx ⊢
    exact ⟨hx.1, hs.2 _ (by omega) _ hx.1 hx.2⟩
  · exact absurd e (h1' j hj)
  · exact absurd e' (h1 j' hj')
  · rw [e2] at h; rw [e2']; exact hs.2 i hi v hv h⟩
theorem filtC_mono {cs : List Con} {n : Nat} (hc : ∀ c ∈ cs, ConOk c n) : ∀ {es ds : List Int}, es.length = n → ds.length = n → SubD es ds → SubD (filtC cs es) (filtC cs ds) := by
  induction cs with
  | nil => intro es ds _ _ h; exact h
  | cons c cs ih =>
    intro es ds he hd h
    exact ih (fun c hm => hc c (.tail _ hm)) ((filtL_len c es).trans he) ((filtL_len c ds).trans hd) (filt_mono (hc c (.head _)) he hd h)
theorem prop_top {m : Mod} (hM : MOk m) {F : List Int} (hF : DOk m.doms.length F) (hfix : filtA m F = F) (hz : F.contains 0 = false) : ∀ (k : Nat) {ds : List Int}, sumN ds = k → DOk m.doms.length ds → SubD F ds → SubD F (prop m ds) := by
  intro k
  induction k using Nat.strongRecOn with
  | _ k ih =>
    intro ds hk hd hs
    cases h0 : ds.contains 0 with
    | true =>
      exfalso
      obtain ⟨i, hi, h1⟩ := List.getElem_of_mem (List.contains_iff_mem.1 h0)
      have h2 : ds.getD i 0 = 0 := by simp [List.getD, hi, h1]
      have hi' : i < F.length := by rw [hs.1]; exact hi
      have h3 := sub_le (hd.d.at hi) (hF.d.at hi') (hs.2 i hi)
      have h4 := hF.d.at hi'
      have h5 : F.getD i 0 = 0 := by omega
      have h6 := getD_mem (d := (0 : Int)) hi'
      rw [h5] at h6
      have h7 := List.contains_iff_mem.2 h6
      rw [hz] at h7; cases h7
    | false =>
      by_cases e : filtA m ds = ds
      · rw [prop_fix h0 e]; exact hs
      · rw [← prop_step hM hd h0 e]
        have hf := filtA_ok hM hd
        have hm : SubD (filtA m F) (filtA m ds) := filtC_mono hM.cons hF.l hd.l hs
        rw [hfix] at hm
        exact ih _ (hk ▸ filtA_lt hM hd e) rfl hf.1 hm
theorem prop_zz {m : Mod} (hM : MOk m) : ∀ (k : Nat) {ds : List Int}, sumN ds = k → DOk m.doms.length ds → (prop m ds).contains 0 = true → prop m ds = zerosL ds.length := by
  intro k
  induction k using Nat.strongRecOn with
  | _ k ih =>
    intro ds hk hd hz
    by_cases h0 : ds.contains 0 = true
    · exact prop_0 h0
    · have h0 : ds.contains 0 = false := by simpa using h0
      by_cases e : filtA m ds = ds
      · rw [prop_fix h0 e, h0] at hz; cases hz
      · have h1 := prop_step hM hd h0 e
        rw [← h1] at hz ⊢
        have h2 := (filtA_ok hM hd).1
        rw [ih _ (by rw [← hk]; exact filtA_lt hM hd e) rfl h2 hz, h2.l, hd.l]
theorem prop_mono {m : Mod} (hM : MOk m) {es ds : List Int} (he : DOk m.doms.length es) (hd : DOk m.doms.length ds) (hs : SubD es ds) : SubD (prop m es) (prop m ds) := by
  have hp := propOk hM he
  have hq := propOk hM hd
  cases hz : (prop m es).contains 0 with
  | true =>
    rw [prop_zz hM _ rfl he hz, he.l, ← hq.ok.l]
    exact zerosL_sub _
  | false =>
    have hfix : filtA m (prop m es) = prop m es := (filtA_fix hM hp.ok).2 (hp.fix.resolve_left (by rw [hz]; simp))
    exact prop_top hM hp.ok hfix hz _ rfl hd (hp.sub.trans hs)
/-! Probing. -/
theorem and_dom {d a : Int} (hd : 0 ≤ d ∧ d ≤ 63) (ha : 0 ≤ a ∧ a ≤ 5) : (0 ≤ iand d (ishl 1 a) ∧ iand d (ishl 1 a) ≤ 63) ∧ ∀ u : Int, 0 ≤ u ∧ u ≤ 5 → hasB (iand d (ishl 1 a)) u = (hasB d u && decide (u = a)) := by
  have key : ∀ d, d < 64 → ∀ a, a < 6 → (0 ≤ iand ((d : Nat) : Int) (ishl 1 ((a : Nat) : Int)) ∧ iand ((d : Nat) : Int) (ishl 1 ((a : Nat) : Int)) ≤ 63) ∧ ∀ u, u < 6 → hasB (iand ((d : Nat) : Int) (ishl 1 ((a : Nat) : Int))) ((u : Nat) : Int) = (hasB ((d : Nat) : Int) ((u : Nat) : Int) && decide (((u : Nat) : Int) = ((a : Nat) : Int))) := by decide +kernel
  obtain ⟨i, rfl⟩ := Int.eq_ofNat_of_zero_le hd.1
  obtain ⟨j, rfl⟩ := Int.eq_ofNat_of_zero_le ha.1
  have h := key i (by omega) j (by omega)
  refine ⟨h.1, fun u hu => ?_⟩
  obtain ⟨w, rfl⟩ := Int.eq_ofNat_of_zero_le hu.1
  exact h.2 w (by omega)
theorem and_sub {d e : Int} (hd : 0 ≤ d ∧ d ≤ 63) (he : 0 ≤ e ∧ e ≤ 63) (h : ∀ v, 0 ≤ v ∧ v ≤ 5 → hasB e v = true → hasB d v = true) : iand e d = e := by
  have key : ∀ d, d < 64 → ∀ e, e < 64 → (∀ v, v < 6 → hasB ((e : Nat) : Int) ((v : Nat) : Int) = true → hasB ((d : Nat) : Int) ((v : Nat) : Int) = true) → iand ((e : Nat) : Int) ((d : Nat) : Int) = ((e : Nat) : Int) := by decide +kernel
  obtain ⟨i, rfl⟩ := Int.eq_ofNat_of_zero_le hd.1
  obtain ⟨j, rfl⟩ := Int.eq_ofNat_of_zero_le he.1
  exact key i (by omega) j (by omega) (fun v hv => h (v : Int) (by omega))
def psetL (ds : List Int) (v a : Int) : List Int := ds.set v.toNat (iand (ds.getD v.toNat 0) (ishl 1 a))
def probOk (m : Mod) (v a : Int) : Bool := (validModB m && withinB v 0 ((m.doms.length : Int) - 1)) && withinB a 0 5
def probI (m : Mod) (v a : Int) : List Int := if probOk m v a = true then prop m (psetL m.doms v a) else []
structure PrOk (m : Mod) (v a : Int) : Prop where
  M : MOk m
  v : 0 ≤ v ∧ v < (m.doms.length : Int)
  a : 0 ≤ a ∧ a ≤ 5
theorem prob_g {m : Mod} {v a : Int} (h : probOk m v a = true) : PrOk m v a := by
  unfold probOk at h
  simp only [Bool.and_eq_true, withinB_iff] at h
  exact ⟨⟨h.1.1⟩, by omega, h.2⟩
theorem probI_c (m : Mod) (v a : Int) : (!(varsInB m [v]) || !(withinB a 0 5)) = !(probOk m v a) := by
  unfold probOk varsInB
  simp only [allInB, List.all_cons, List.all_nil, Bool.and_true]
  cases validModB m <;> cases withinB v 0 ((m.doms.length : Int) - 1) <;> cases withinB a 0 5 <;> rfl
theorem probS_c (m : Mod) (v a : Int) : ((!(validModB m) || !(withinB v 0 ((m.doms.length : Int) - 1))) || !(withinB a 0 5)) = !(probOk m v a) := by
  unfold probOk
  cases validModB m <;> cases withinB v 0 ((m.doms.length : Int) - 1) <;> cases withinB a 0 5 <;> rfl
theorem prob_yes {m : Mod} {v a : Int} {b : Bool} (e : b = !(probOk m v a)) (h : b = false) : probOk m v a = true := by
  rw [h] at e; cases h9 : probOk m v a with
  | true => rfl
  | false => rw [h9] at e; cases e
theorem prob_no {m : Mod} {v a : Int} {b : Bool} (e : b = !(probOk m v a)) (h : b = true) : probI m v a = [] := by
  unfold probI; rw [h] at e; cases h9 : probOk m v a with
  | true => rw [h9] at e; cases e
  | false => rw [if_neg (by simp)]
theorem prob_at {m : Mod} {v a : Int} (h : probOk m v a = true) : prop m (psetL m.doms v a) = probI m v a := by unfold probI; rw [if_pos h]
theorem pset_at {ds : List Int} {v a : Int} {i : Nat} (hi : i < ds.length) : (psetL ds v a).getD i 0 = if v.toNat = i then iand (ds.getD i 0) (ishl 1 a) else ds.getD i 0 := by
  unfold psetL
  rw [List.getD_eq_getElem?_getD, List.getElem?_set]
  by_cases e : v.toNat = i
  · subst e; rw [if_pos rfl, if_pos hi, if_pos rfl]; rfl
  · rw [if_neg e, if_neg e, ← List.getD_eq_getElem?_getD]
theorem pset_ok {m : Mod} {v a : Int} (h : PrOk m v a) : DOk m.doms.length (psetL m.doms v a) ∧ SubD (psetL m.doms v a) m.doms := by
  have hl : (psetL m.doms v a).length = m.doms.length := by unfold psetL; simp
  refine ⟨⟨hl, fun d hd => ?_⟩, ⟨hl, fun i hi u hu h9 => ?_⟩⟩
  · obtain ⟨i, hi, rfl⟩ := List.getElem_of_mem hd
    have hi' : i < m.doms.length := by rw [← hl]; exact hi
    rw [show (psetL m.doms v a)[i] = (psetL m.doms v a).getD i 0 from by simp [List.getD, hi], pset_at hi']
    split
    · exact (and_dom (h.M.d hi') h.a).1
    · exact h.M.d hi'
  · rw [pset_at hi] at h9
    split at h9
    · rw [(and_dom (h.M.d hi) h.a).2 u hu, Bool.and_eq_true] at h9; exact h9.1
    · exact h9
theorem prob_DOk {m : Mod} {v a : Int} (h : probOk m v a = true) : DOk m.doms.length (probI m v a) := by
  have hp := prob_g h
  rw [← prob_at h]; exact (propOk hp.M (pset_ok hp).1).ok
/-- A solution with the value lies in what the probe leaves. -/
theorem prob_box {m : Mod} {v a : Int} (h : probOk m v a = true) {x : List Int} (hx : x ∈ sols m) (hv : x.getD v.toNat 0 = a) : Box (probI m v a) x := by
  have hp := prob_g h
  have hk := pset_ok hp
  unfold sols solT at hx
  rw [List.mem_filter, mem_tupL] at hx
  have h1 : x ∈ solT m (psetL m.doms v a) := by
    unfold solT
    rw [List.mem_filter, mem_tupL]
    refine ⟨⟨by rw [hx.1.1, hk.1.l], fun i hi => ?_⟩, hx.2⟩
    rw [hk.1.l] at hi
    rw [pset_at hi]
    have h2 := hx.1.2 i hi
    split
    · rename_i e
      subst e
      rw [mem_valsI] at h2 ⊢
      refine ⟨h2.1, ?_⟩
      rw [(and_dom (hp.M.d hi) hp.a).2 _ h2.1, h2.2, decide_eq_true hv]; rfl
    · exact h2
  rw [← (propOk hp.M hk.1).sol, prob_at h] at h1
  unfold solT at h1
  rw [List.mem_filter, mem_tupL] at h1
  exact h1.1
theorem prob_has {m : Mod} {v a : Int} (h : probOk m v a = true) {i k : Nat} (hi : i < (solL m).length) (hk : k < (probI m v a).length) (hv : ((solL m).getD i []).getD v.toNat 0 = a) : dhasB ((probI m v a).getD k 0) (((solL m).getD i []).getD k 0) = true := by
  have hb := prob_box h (solL_mem (getD_mem (d := ([] : List Int)) hi)) hv
  have h1 := (prob_DOk h).d.at hk
  have h2 := mem_valsI.1 (hb.2 k hk)
  unfold dhasB
  rw [withinB_iff.2 h1, withinB_iff.2 h2.1, h2.2]; rfl
def contB (a b : List Int) : Bool := decide ((a.length : Int) = (b.length : Int)) && (List.range a.length).all (fun i => decide (iand (a.getD i 0) (b.getD i 0) = a.getD i 0))
theorem cont_step {a b : List Int} {k : Nat} (h : (List.range k).all (fun i => decide (iand (a.getD i 0) (b.getD i 0) = a.getD i 0)) = true) (c : ¬ iand (a.getD k 0) (b.getD k 0) ≠ a.getD k 0) : (List.range (k + 1)).all (fun i => decide (iand (a.getD i 0) (b.getD i 0) = a.getD i 0)) = true := by
  rw [List.range_succ, List.all_append, h]
  simp only [List.all_cons, List.all_nil, Bool.and_true, Bool.true_and, decide_eq_true_eq]
  exact Decidable.not_not.1 c
theorem cont_0 {a b : List Int} (h : (a.length : Int) ≠ (b.length : Int)) : false = contB a b := by unfold contB; rw [decide_eq_false h]; rfl
theorem cont_at {a b : List Int} {k : Nat} (hk : k < a.length) (c : iand (a.getD k 0) (b.getD k 0) ≠ a.getD k 0) : false = contB a b := by
  unfold contB
  rw [show (List.range a.length).all (fun i => decide (iand (a.getD i 0) (b.getD i 0) = a.getD i 0)) = false from List.all_eq_false.2 ⟨k, List.mem_range.2 hk, by rw [decide_eq_false c]; simp⟩, Bool.and_false]
theorem cont_end {a b : List Int} {k : Nat} (h0 : ¬ (a.length : Int) ≠ (b.length : Int)) (hk : k = a.length) (h : (List.range k).all (fun i => decide (iand (a.getD i 0) (b.getD i 0) = a.getD i 0)) = true) : true = contB a b := by
  unfold contB
  rw [← hk, h, decide_eq_true]; rfl
  rw [hk]; exact Decidable.not_not.1 h0
theorem prob_cont {m : Mod} {v a : Int} (h : probOk m v a = true) : contB (probI m v a) (propI m) = true := by
  have hp := prob_g h
  have hk := pset_ok hp
  have h1 := prop_mono hp.M hk.1 hp.M.dok hk.2
  rw [prob_at h] at h1
  have e : propI m = prop m m.doms := propI_yes hp.M.v
  rw [e]
  have h2 := prob_DOk h
  have h3 := (propOk hp.M hp.M.dok).ok
  unfold contB
  rw [decide_eq_true (by rw [h2.l, h3.l]), Bool.true_and, List.all_eq_true]
  intro i hi
  have hi := List.mem_range.1 hi
  have hi' : i < (prop m m.doms).length := by rw [← h1.1]; exact hi
  rw [decide_eq_true_eq]
  exact and_sub (h3.d.at hi') (h2.d.at hi) (h1.2 i hi')
theorem prob_lits {m : Mod} {v a : Int} (h : probOk m v a = true) : litsB m [⟨v, a, false⟩] = true := by
  have hp := prob_g h
  refine litsB_iff.2 ⟨hp.M.v, ?_, by simp⟩
  unfold clTo clAt litOkB
  have h1 : withinB v 0 ((m.doms.length : Int) - 1) = true := withinB_iff.2 (by have := hp.v; omega)
  have h2 : withinB a 0 5 = true := withinB_iff.2 hp.a
  simp [List.getD, h1, h2, List.range_succ]
theorem prob_zero {m : Mod} {v a : Int} (h : probOk m v a = true) (h0 : ¬ 0 < (probI m v a).getD 0 0) : cwI m [⟨v, a, false⟩] = 0 := by
  have hp := prob_g h
  have hn := hp.M.n
  rw [cw_eq (prob_lits h)]
  have h1 := prob_DOk h
  have h2 := h1.d.at (i := 0) (by rw [h1.l]; omega)
  have e : (probI m v a).getD 0 0 = 0 := by omega
  rw [List.filter_eq_nil_iff.2 (fun x hx hb => ?_)]
  · rfl
  · unfold allT holdL at hb
    simp only [List.all_cons, List.all_nil, Bool.and_true] at hb
    have hv : x.getD v.toNat 0 = a := by
      by_cases h9 : x.getD v.toNat 0 = a
      · exact h9
      · rw [decide_eq_false h9] at hb; cases hb
    have h3 := (prob_box h hx hv).2 0 (by rw [h1.l]; omega)
    rw [e, valsI_0] at h3; cases h3
theorem prob_ne {m : Mod} {v a : Int} {b : Bool} (h : (b || decide (((probI m v a).length : Int) = 0)) = false) : probOk m v a = true := by
  simp only [Bool.or_eq_false_iff, decide_eq_false_iff_not] at h
  cases h9 : probOk m v a with
  | true => rfl
  | false => exact absurd (by unfold probI; rw [h9]; rfl) h.2
theorem prob_fin {m : Mod} {v a : Int} (h : probOk m v a = true) : (contB (probI m v a) (propI m) && (decide (0 < (probI m v a).getD 0 0) || decide (cwI m [⟨v, a, false⟩] = 0))) = true := by
  rw [prob_cont h, Bool.true_and]
  by_cases h0 : 0 < (probI m v a).getD 0 0
  · rw [decide_eq_true h0]; rfl
  · rw [decide_eq_true (prob_zero h h0), Bool.or_true]
end Go.Proofs.YtbbphbihgikmdaaGreat
