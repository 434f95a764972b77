/- Plain law: the checker accepts the plays of a strategy. No program in sight. Conditions: none. -/
import Derived.Test.YtidllhcfcmjggaaGreatPurePl
namespace Go.Proofs.YtidllhcfcmjggaaGreat
open Go
set_option linter.unusedSimpArgs false
set_option linter.unusedVariables false
theorem valsI_asc (d : Int) : (valsI d).Pairwise (· < ·) := by
  unfold valsI membersTo natsI
  rw [List.pairwise_map]
  exact (List.Pairwise.filter _ List.pairwise_lt_range).imp (fun h => by omega)
theorem playS_pre (m : Mod) (fa : List Bool) : ∀ (k : Nat) (x : List Int), ∀ r ∈ playS m fa k x, r.take x.length = x
  | 0, x, r, hr => by rw [playS, List.mem_singleton] at hr; rw [hr, List.take_length]
  | k + 1, x, r, hr => by
    have key : ∀ v, r ∈ playS m fa k (x ++ [v]) → r.take x.length = x := fun v hv => by
      have h1 := playS_pre m fa k _ r hv
      have h2 := playS_row m fa k _ r hv
      exact ((pre_snoc (by rw [h2]; simp; omega)).1 h1).1
    rw [playS] at hr
    split at hr
    · obtain ⟨v, _, hv⟩ := List.mem_flatMap.1 hr; exact key v hv
    · split at hr
      · exact key _ hr
      · cases hr
theorem playS_get {m : Mod} {fa : List Bool} {k : Nat} {x r : List Int} {v : Int} (hr : r ∈ playS m fa k (x ++ [v])) : r.getD x.length 0 = v := by
  have h1 := playS_pre m fa k _ r hr
  have h2 := playS_row m fa k _ r hr
  exact ((pre_snoc (by rw [h2]; simp; omega)).1 h1).2
theorem find_win {m : Mod} {fa : List Bool} {k : Nat} {x : List Int} (e : ¬ fa.getD x.length false = true) (hw : winB m fa (k + 1) x = true) : ∃ v, v ∈ valsI (m.doms.getD x.length 0) ∧ winB m fa k (x ++ [v]) = true ∧ playS m fa (k + 1) x = playS m fa k (x ++ [v]) := by
  rw [winB, if_neg e, List.any_eq_true] at hw
  obtain ⟨u, hu, hwu⟩ := hw
  rw [playS, if_neg e]
  cases hf : (valsI (m.doms.getD x.length 0)).find? (fun v => winB m fa k (x ++ [v])) with
  | none => exact absurd hwu (by have := List.find?_eq_none.1 hf u hu; simpa using this)
  | some v => exact ⟨v, List.mem_of_find?_eq_some hf, by have := List.find?_some hf; simpa using this, rfl⟩
section st
variable {m : Mod} {fa : List Bool}
theorem playS_ne (hM : MOk m) (h0 : m.doms.contains 0 = false) : ∀ (k : Nat) (x : List Int), x.length + k = m.doms.length → winB m fa k x = true → playS m fa k x ≠ []
  | 0, x, _, _ => by simp [playS]
  | k + 1, x, hx, hw => by
    have hp : x.length < m.doms.length := by omega
    by_cases e : fa.getD x.length false = true
    · have hne : m.doms.getD x.length 0 ≠ 0 := fun e2 => by
        have := getD_mem (d := (0 : Int)) hp
        rw [e2] at this
        have h9 := List.contains_iff_mem.2 this
        rw [h0] at h9; cases h9
      obtain ⟨v, hv⟩ := List.exists_mem_of_ne_nil _ (valsI_ne (hM.d hp) hne)
      rw [winB, if_pos e, List.all_eq_true] at hw
      obtain ⟨r, hr⟩ := List.exists_mem_of_ne_nil _ (playS_ne hM h0 k (x ++ [v]) (by simp; omega) (hw v hv))
      rw [playS, if_pos e]
      exact List.ne_nil_of_mem (List.mem_flatMap.2 ⟨v, hv, hr⟩)
    · obtain ⟨v, hv, hwv, heq⟩ := find_win e hw
      rw [heq]; exact playS_ne hM h0 k (x ++ [v]) (by simp; omega) hwv
theorem flat_pick {D : List Int} {f : Int → List (List Int)} {p : List Int → Bool} {v : Int} (nd : D.Pairwise (· < ·)) (hv : v ∈ D) (h1 : ∀ r ∈ f v, p r = true) (h2 : ∀ u, u ≠ v → ∀ r ∈ f u, p r = false) : (D.flatMap f).filter p = f v := by
  induction D with
  | nil => cases hv
  | cons d D ih =>
    obtain ⟨n1, n2⟩ := List.pairwise_cons.1 nd
    rw [List.flatMap_cons, List.filter_append]
    by_cases e : d = v
    · subst e
      rw [List.filter_eq_self.2 h1, List.filter_eq_nil_iff.2 (fun r hr => ?_), List.append_nil]
      obtain ⟨u, hu, hr⟩ := List.mem_flatMap.1 hr
      have := n1 u hu
      rw [h2 u (by omega) r hr]; simp
    · rw [List.filter_eq_nil_iff.2 (fun r hr => by rw [h2 d e r hr]; simp), List.nil_append]
      refine ih n2 ?_
      cases hv with
      | head => exact absurd rfl e
      | tail _ hv => exact hv
theorem st_ok (hM : MOk m) (h0 : m.doms.contains 0 = false) {l : List (List Int)} (hl : ∀ r ∈ l, r.length = m.doms.length) : ∀ (k : Nat) (x : List Int), x.length + k = m.doms.length → winB m fa k x = true → preL l x = playS m fa k x → stratB m fa l k x = true
  | 0, x, _, hw, _ => hw
  | k + 1, x, hx, hw, hpl => by
    have hp : x.length < m.doms.length := by omega
    have hpre : ∀ v, preL l (x ++ [v]) = (playS m fa (k + 1) x).filter (fun r => !(decide (r.getD x.length 0 ≠ v))) := fun v => by rw [preL_snoc hl hp v, hpl]
    rw [stratB, hpl]
    by_cases e : fa.getD x.length false = true
    · have hps : playS m fa (k + 1) x = (valsI (m.doms.getD x.length 0)).flatMap (fun v => playS m fa k (x ++ [v])) := by rw [playS, if_pos e]
      rw [winB, if_pos e, List.all_eq_true] at hw
      have hT : takM (playS m fa (k + 1) x) x.length = m.doms.getD x.length 0 := dom_ext (takM_in _ _) (hM.d hp) (fun v hv => by
        rw [Bool.eq_iff_iff, takM_has hv, hps]
        constructor
        · rintro ⟨r, hr, e2⟩
          obtain ⟨u, hu, hr⟩ := List.mem_flatMap.1 hr
          rw [playS_get hr] at e2
          subst e2; exact (mem_valsI.1 hu).2
        · intro h
          have hv2 := mem_valsI.2 ⟨hv, h⟩
          obtain ⟨r, hr⟩ := List.exists_mem_of_ne_nil _ (playS_ne hM h0 k (x ++ [v]) (by simp; omega) (hw v hv2))
          exact ⟨r, List.mem_flatMap.2 ⟨v, hv2, hr⟩, (playS_get hr).symm⟩)
      rw [hT, if_pos e, decide_eq_true rfl, Bool.true_and, List.all_eq_true]
      intro v hv
      have hm := mem_valsI.1 hv
      rw [withinB_iff.2 hm.1, hm.2, Bool.true_and, Bool.true_and]
      refine st_ok hM h0 hl k (x ++ [v]) (by simp; omega) (hw v hv) ?_
      rw [hpre v, hps]
      exact flat_pick (valsI_asc _) hv (fun r hr => by rw [playS_get hr]; simp) (fun u hu r hr => by rw [playS_get hr]; simp [hu])
    · obtain ⟨v, hv, hwv, heq⟩ := find_win e hw
      have hm := mem_valsI.1 hv
      have hne := playS_ne hM h0 k (x ++ [v]) (by simp; omega) hwv
      have hsh := shl_le hm.1
      have hT : takM (playS m fa (k + 1) x) x.length = ishl 1 v := dom_ext (takM_in _ _) (by omega) (fun u hu => by
        have h1 : hasB (ishl 1 v) u = true ↔ u = v := by
          have := mem_valsI (d := ishl 1 v) (v := u)
          rw [valsI_one hm.1, List.mem_singleton] at this
          constructor
          · intro h; exact this.2 ⟨hu, h⟩
          · intro h; exact (this.1 h).2
        rw [Bool.eq_iff_iff, takM_has hu, heq, h1]
        constructor
        · rintro ⟨r, hr, e2⟩; rw [playS_get hr] at e2; exact e2
        · intro h
          obtain ⟨r, hr⟩ := List.exists_mem_of_ne_nil _ hne
          exact ⟨r, hr, by rw [playS_get hr]; exact h⟩)
      rw [hT, valsI_one hm.1, if_neg e]
      simp only [List.length_singleton, List.all_cons, List.all_nil, Bool.and_true]
      rw [withinB_iff.2 hm.1, hm.2, Bool.true_and, Bool.true_and]
      rw [st_ok hM h0 hl k (x ++ [v]) (by simp; omega) hwv (by
        rw [hpre v, heq]
        exact List.filter_eq_self.2 (fun r hr => by rw [playS_get hr]; simp))]
      rfl
theorem playS_vals : ∀ (k : Nat) (x : List Int), Vals x → ∀ r ∈ playS m fa k x, Vals r
  | 0, x, hx, r, hr => by rw [playS, List.mem_singleton] at hr; rw [hr]; exact hx
  | k + 1, x, hx, r, hr => by
    rw [playS] at hr
    split at hr
    · obtain ⟨v, hv, hr⟩ := List.mem_flatMap.1 hr
      exact playS_vals k _ (hx.snoc (valsI_mem hv)) r hr
    · split at hr
      · rename_i v hf
        exact playS_vals k _ (hx.snoc (valsI_mem (List.mem_of_find?_eq_some hf))) r hr
      · cases hr
theorem playS_asc : ∀ (k : Nat) (x : List Int), (playS m fa k x).Pairwise (fun a b => lexC a b < 0)
  | 0, x => by rw [playS]; exact List.pairwise_singleton _ _
  | k + 1, x => by
    rw [playS]
    split
    · rw [List.pairwise_flatMap]
      refine ⟨fun v _ => playS_asc k _, (valsI_asc _).imp (fun {u v} huv r hr s hs => ?_)⟩
      have r1 := playS_row m fa k _ r hr
      have s1 := playS_row m fa k _ s hs
      have r2 := ((pre_snoc (p := x) (v := u) (by rw [r1]; simp; omega)).1 (playS_pre m fa k _ r hr)).1
      have s2 := ((pre_snoc (p := x) (v := v) (by rw [s1]; simp; omega)).1 (playS_pre m fa k _ s hs)).1
      have h9 := lexl_hit (a := r) (b := s) (k := x.length) (by rw [r1, s1]; simp) (by rw [r1]; simp; omega) (by rw [r2, s2]) (by rw [playS_get hr, playS_get hs]; omega)
      rw [playS_get hr, playS_get hs, decide_eq_true huv] at h9
      exact of_decide_eq_true h9.symm
    · split
      · exact playS_asc k _
      · exact List.Pairwise.nil
theorem str_chk (h : strB m fa = true) : chkI m fa (strL m fa) = true := by
  obtain ⟨hM, hfl, hw⟩ := str_ok h
  have hg : gOkB m fa = true := by unfold strB at h; rw [Bool.and_eq_true] at h; exact h.1
  have hz : m.doms.contains 0 = false := by
    unfold gOkB at hg; rw [Bool.and_eq_true, Bool.not_eq_true'] at hg; exact hg.2
  rw [chk_eq]
  unfold chkS
  rw [show (fOkB m fa && !(m.doms.contains 0)) = true from hg, Bool.true_and, strL_at h]
  have hrow : ∀ r ∈ playS m fa m.doms.length [], r.length = m.doms.length := fun r hr => by have := playS_row m fa _ _ r hr; simpa using this
  rw [st_ok hM hz hrow m.doms.length [] (by simp) hw (preL_nil _), Bool.and_true]
  unfold plTo
  rw [List.all_eq_true]
  intro k hk
  have hk := List.mem_range.1 hk
  have hr := getD_mem (d := ([] : List Int)) hk
  have hv := playS_vals m.doms.length [] vals_nil _ hr
  have ha : asgB m ((playS m fa m.doms.length []).getD k []) = true := by
    unfold asgB
    rw [hrow _ hr, decide_eq_true rfl, Bool.true_and, allInB_iff]
    exact hv
  have hi : incI (playS m fa m.doms.length []) k = false := by
    unfold incI
    by_cases h9 : (0 : Int) < (k : Int)
    · have hp := List.pairwise_iff_getElem.1 (playS_asc (m := m) (fa := fa) m.doms.length []) (k - 1) k (by omega) hk (by omega)
      have e1 : ((k : Int) - 1).toNat = k - 1 := by omega
      have e2 : (playS m fa m.doms.length []).getD (k - 1) [] = (playS m fa m.doms.length [])[k - 1]'(by omega) := by rw [List.getD_eq_getElem?_getD, List.getElem?_eq_getElem (by omega)]; rfl
      have e3 : (playS m fa m.doms.length []).getD k [] = (playS m fa m.doms.length [])[k] := by rw [List.getD_eq_getElem?_getD, List.getElem?_eq_getElem hk]; rfl
      rw [e1, e2, e3, decide_eq_false (by omega : ¬ 0 ≤ lexC _ _), Bool.and_false]
    · rw [decide_eq_false h9, Bool.false_and]
  unfold plS
  rw [ha, hi]; rfl
end st
theorem str_sol {m : Mod} {fa : List Bool} {k : Nat} (hk : k < (strL m fa).length) : isSolT m ((strL m fa).getD k []) = true := by
  cases h : strB m fa with
  | true => exact chk_sol (str_chk h) (getD_mem hk)
  | false => rw [strL_no h.symm] at hk; exact absurd hk (Nat.not_lt_zero k)
theorem str_len (m : Mod) (fa : List Bool) : (strL m fa).length ≤ 1048576 := by
  unfold strL
  split
  · rename_i h
    have h2 := playS_len m fa m.doms.length []
    have h3 := pow6 (str_ok h).1.n.2
    omega
  · simp
theorem all_ne0 : ∀ l : List Int, l.all (fun d => decide (d ≠ 0)) = !(l.contains 0)
  | [] => rfl
  | d :: l => by
    have := all_ne0 l
    rw [List.all_cons, this, List.contains_cons]
    by_cases e : d = 0
    · subst e; simp
    · have e2 : ((0 : Int) == d) = false := by simpa using fun h => e h.symm
      rw [e2, decide_eq_true e]; simp
theorem str_fin {m : Mod} {fa : List Bool} {b : Bool} {k : Nat} (hb : b = (m.doms.take k).all (fun d => decide (d ≠ 0))) (hk : k = m.doms.length) : ((strB m fa == (b && qtrueB m fa)) && (!(strB m fa) || chkI m fa (strL m fa))) = true := by
  have e : strB m fa = (b && qtrueB m fa) := by
    rw [hb, hk, List.take_length, all_ne0]
    unfold strB gOkB qtrueB
    cases fOkB m fa <;> cases m.doms.contains 0 <;> cases winB m fa m.doms.length [] <;> rfl
  rw [← e]
  cases h : strB m fa with
  | true => rw [str_chk h]; rfl
  | false => rfl
end Go.Proofs.YtidllhcfcmjggaaGreat
