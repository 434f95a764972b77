/- Plain law: plays of a strategy: following them all at once and by their beginnings give the same. No program in sight. Conditions: none. -/
import Derived.Test.YtiilanckbocifaaGreatPureZ
import Derived.Test.YtiilanckbocifaaGreatPureL
namespace Go.Proofs.YtiilanckbocifaaGreat
open Go
set_option linter.unusedSimpArgs false
set_option linter.unusedVariables false
/-- The values that the lists have at a place. -/
def takM (l : List (List Int)) (i : Nat) : Int := maskP (fun v => l.any (fun x => decide (v = x.getD i 0)))
def preL (l : List (List Int)) (p : List Int) : List (List Int) := l.filter (fun x => decide (x.take p.length = p))
theorem takM_in (l : List (List Int)) (i : Nat) : 0 ≤ takM l i ∧ takM l i ≤ 63 := maskP_in _
theorem takM_has {l : List (List Int)} {i : Nat} {v : Int} (h : 0 ≤ v ∧ v ≤ 5) : hasB (takM l i) v = true ↔ ∃ x ∈ l, v = x.getD i 0 := by
  unfold takM; rw [maskP_has h, List.any_eq_true]; simp
theorem takM_vals {l : List (List Int)} {i : Nat} {v : Int} : v ∈ valsI (takM l i) ↔ (0 ≤ v ∧ v ≤ 5) ∧ ∃ x ∈ l, v = x.getD i 0 := by
  rw [mem_valsI]
  constructor
  · rintro ⟨h1, h2⟩; exact ⟨h1, (takM_has h1).1 h2⟩
  · rintro ⟨h1, h2⟩; exact ⟨h1, (takM_has h1).2 h2⟩
theorem takM_0 (i : Nat) : takM [] i = 0 := by unfold takM maskP; simp
theorem takM_snoc (l : List (List Int)) (x : List Int) (i : Nat) : takM (l ++ [x]) i = maskP (fun u => hasB (takM l i) u || decide (u = x.getD i 0)) := by
  unfold takM
  refine maskP_congr (fun v hv => ?_)
  rw [maskP_has hv, List.any_append]; simp
theorem takM_ior {l : List (List Int)} {i k : Nat} {t : Int} (hk : k < l.length) (h : t = takM (l.take k) i) (hv : 0 ≤ (l.getD k []).getD i 0 ∧ (l.getD k []).getD i 0 ≤ 5) : ior t (ishl 1 ((l.getD k []).getD i 0)) = takM (l.take (k + 1)) i := by
  subst h; rw [take_succ_getD [] hk, takM_snoc, ior_has (takM_in _ _) hv]
/-- Equal masks, equal values. -/
theorem valsI_inj {d e : Int} (hd : 0 ≤ d ∧ d ≤ 63) (he : 0 ≤ e ∧ e ≤ 63) (h : valsI d = valsI e) : d = e := dom_ext hd he (fun v hv => by
  have h1 : v ∈ valsI d ↔ v ∈ valsI e := by rw [h]
  rw [mem_valsI, mem_valsI] at h1
  rw [Bool.eq_iff_iff]
  constructor
  · intro h2; exact (h1.1 ⟨hv, h2⟩).2
  · intro h2; exact (h1.2 ⟨hv, h2⟩).2)
/-! The two ways. -/
def folB (m : Mod) (fa : List Bool) : Nat → List (List Int) → Bool
  | 0, l => decide ((l.length : Int) = 1)
  | k + 1, l => (if fa.getD (m.doms.length - (k + 1)) false = true then decide (takM l (m.doms.length - (k + 1)) = m.doms.getD (m.doms.length - (k + 1)) 0) else decide (popI (takM l (m.doms.length - (k + 1))) = 1)) &&
      (valsI (takM l (m.doms.length - (k + 1)))).all (fun v => folB m fa k (l.filter (fun x => !(decide (x.getD (m.doms.length - (k + 1)) 0 ≠ v)))))
def stratB (m : Mod) (fa : List Bool) (l : List (List Int)) : Nat → List Int → Bool
  | 0, x => metB m x
  | k + 1, x => (if fa.getD x.length false = true then decide (valsI (takM (preL l x) x.length) = valsI (m.doms.getD x.length 0)) else decide (((valsI (takM (preL l x) x.length)).length : Int) = 1)) &&
      (valsI (takM (preL l x) x.length)).all (fun v => (withinB v 0 5 && hasB (m.doms.getD x.length 0) v) && stratB m fa l k (x ++ [v]))
/-- A list that may be a play: as long as the model has variables, values from 0 to 5. -/
abbrev asgB (m : Mod) (x : List Int) : Bool := decide ((x.length : Int) = (m.doms.length : Int)) && allInB x 0 5
theorem asg_ok {m : Mod} {x : List Int} (h : asgB m x = true) : x.length = m.doms.length ∧ Vals x := by
  unfold asgB at h; simp only [Bool.and_eq_true, decide_eq_true_eq] at h
  exact ⟨by omega, vals_of h.2⟩
def incI (l : List (List Int)) (k : Nat) : Bool := decide ((0 : Int) < (k : Int)) && decide (0 ≤ lexC (l.getD ((k : Int) - 1).toNat []) (l.getD k []))
def plI (m : Mod) (l : List (List Int)) (k : Nat) : Bool := !((!(asgB m (l.getD k [])) || !(isSolB m (l.getD k []))) || incI l k)
def plS (m : Mod) (l : List (List Int)) (k : Nat) : Bool := !(!(asgB m (l.getD k [])) || incI l k)
def plTo (p : Nat → Bool) (k : Nat) : Bool := (List.range k).all p
theorem plTo_step {p : Nat → Bool} {k : Nat} (h : plTo p k = true) (c : p k = true) : plTo p (k + 1) = true := by
  unfold plTo at *; rw [List.range_succ, List.all_append, h]; simpa using c
theorem plTo_at {p : Nat → Bool} {k j : Nat} (h : plTo p k = true) (hj : j < k) : p j = true := List.all_eq_true.1 h j (List.mem_range.2 hj)
def chkI (m : Mod) (fa : List Bool) (l : List (List Int)) : Bool := (gOkB m fa && !(decide ((l.length : Int) = 0))) && (plTo (plI m l) l.length && folB m fa m.doms.length l)
def chkS (m : Mod) (fa : List Bool) (l : List (List Int)) : Bool := (fOkB m fa && !(m.doms.contains 0)) && (plTo (plS m l) l.length && stratB m fa l m.doms.length [])
/-! What ordered plays are. -/
structure Plays (m : Mod) (l : List (List Int)) : Prop where
  v : ∀ x ∈ l, x.length = m.doms.length ∧ Vals x
  nd : l.Pairwise (· ≠ ·)
theorem lex_tr : ∀ {a b c : List Int}, a.length = b.length → b.length = c.length → lexC a b < 0 → lexC b c < 0 → lexC a c < 0
  | [], [], c, _, _, h, _ => by rw [lexC_self] at h; omega
  | a :: ar, b :: bs, c :: cs, h1, h2, h3, h4 => by
    rw [lexC] at h3 h4 ⊢
    have hab := cmpI_in a b
    by_cases e1 : cmpI a b = 0
    · have := cmpI_0 e1; subst this
      rw [if_neg (by simpa using e1)] at h3
      by_cases e2 : cmpI a c = 0
      · rw [if_neg (by simpa using e2)] at h4 ⊢; exact lex_tr (by simpa using h1) (by simpa using h2) h3 h4
      · rw [if_pos e2] at h4 ⊢; exact h4
    · rw [if_pos e1] at h3
      have l1 : a < b := by unfold cmpI at h3; split at h3 <;> (try split at h3) <;> omega
      by_cases e2 : cmpI b c = 0
      · have := cmpI_0 e2; subst this
        rw [if_pos e1]; exact h3
      · rw [if_pos e2] at h4
        have l2 : b < c := by unfold cmpI at h4; split at h4 <;> (try split at h4) <;> omega
        have : cmpI a c = -1 := by unfold cmpI; rw [if_pos (by omega)]
        rw [this, if_pos (by decide)]; decide
theorem inc_lt {m : Mod} {l : List (List Int)} (h : plTo (plS m l) l.length = true) {i : Nat} : ∀ (j : Nat), i < j → j < l.length → lexC (l.getD i []) (l.getD j []) < 0
  | 0, h1, _ => absurd h1 (Nat.not_lt_zero i)
  | j + 1, h1, h2 => by
    have hv : ∀ q, q < l.length → (l.getD q []).length = m.doms.length := fun q hq => by
      have := plTo_at h hq
      unfold plS at this; simp only [Bool.not_eq_true', Bool.or_eq_false_iff, Bool.not_eq_false'] at this
      exact (asg_ok this.1).1
    have h3 := plTo_at h h2
    unfold plS incI at h3
    simp only [Bool.not_eq_true', Bool.or_eq_false_iff, Bool.and_eq_false_iff, decide_eq_false_iff_not] at h3
    have h4 : lexC (l.getD j []) (l.getD (j + 1) []) < 0 := by
      rcases h3.2 with h5 | h5
      · omega
      · rw [show (((j + 1 : Nat) : Int) - 1).toNat = j from by omega] at h5; omega
    by_cases e : i = j
    · subst e; exact h4
    · exact lex_tr (by rw [hv i (by omega), hv j (by omega)]) (by rw [hv j (by omega), hv _ h2]) (inc_lt h j (by omega) (by omega)) h4
theorem plays_of {m : Mod} {l : List (List Int)} (h : plTo (plS m l) l.length = true) : Plays m l := by
  refine ⟨fun x hx => ?_, ?_⟩
  · obtain ⟨i, hi, rfl⟩ := List.getElem_of_mem hx
    have h1 := plTo_at h hi
    unfold plS at h1
    simp only [Bool.not_eq_true', Bool.or_eq_false_iff, Bool.not_eq_false'] at h1
    have := asg_ok h1.1
    rwa [List.getD_eq_getElem?_getD, List.getElem?_eq_getElem hi, Option.getD_some] at this
  · rw [List.pairwise_iff_getElem]
    intro i j hi hj hij e
    have h1 := inc_lt h j hij hj
    rw [List.getD_eq_getElem?_getD, List.getElem?_eq_getElem hi, List.getD_eq_getElem?_getD, List.getElem?_eq_getElem hj, Option.getD_some, Option.getD_some, e, lexC_self] at h1
    omega
theorem mem_preL {l : List (List Int)} {p x : List Int} : x ∈ preL l p ↔ x ∈ l ∧ x.take p.length = p := by unfold preL; rw [List.mem_filter, decide_eq_true_eq]
theorem preL_nil (l : List (List Int)) : preL l [] = l := by unfold preL; rw [List.filter_eq_self]; intro x _; simp
theorem pre_snoc {p x : List Int} {v : Int} (h : p.length < x.length) : x.take (p ++ [v]).length = p ++ [v] ↔ x.take p.length = p ∧ x.getD p.length 0 = v := by
  rw [List.length_append, List.length_singleton, take_succ_getD 0 h]
  constructor
  · intro e
    have e1 := List.append_inj e (by simp; omega)
    exact ⟨e1.1, by simpa using e1.2⟩
  · rintro ⟨e1, e2⟩; rw [e1, e2]
theorem preL_snoc {m : Mod} {l : List (List Int)} (hl : ∀ x ∈ l, x.length = m.doms.length) {p : List Int} (hp : p.length < m.doms.length) (v : Int) : preL l (p ++ [v]) = (preL l p).filter (fun x => !(decide (x.getD p.length 0 ≠ v))) := by
  unfold preL
  rw [List.filter_filter]
  refine List.filter_congr (fun x hx => ?_)
  have := pre_snoc (p := p) (v := v) (x := x) (by rw [hl x hx]; exact hp)
  rw [Bool.eq_iff_iff]
  simp only [decide_eq_true_eq, Bool.and_eq_true, Bool.not_eq_true', decide_eq_false_iff_not, Decidable.not_not]
  rw [this]; exact And.comm
theorem one_len {A : Type} {l : List A} {a : A} (nd : l.Pairwise (· ≠ ·)) (h : ∀ x ∈ l, x = a) (ne : l ≠ []) : l.length = 1 := by
  match l, ne with
  | [x], _ => rfl
  | x :: y :: r, _ =>
    have h1 := h x (.head _)
    have h2 := h y (.tail _ (.head _))
    exact absurd (h1.trans h2.symm) ((List.pairwise_cons.1 nd).1 y (.head _))
theorem sol_dom {m : Mod} {x : List Int} (h : isSolB m x = true) {i : Nat} (hi : i < x.length) : hasB (m.doms.getD i 0) (x.getD i 0) = true := by
  unfold isSolB inDomB at h; rw [Bool.and_eq_true] at h
  exact List.all_eq_true.1 h.1 i (List.mem_range.2 hi)
theorem sol_met {m : Mod} {x : List Int} (h : isSolB m x = true) : metB m x = true := by
  unfold isSolB at h; rw [Bool.and_eq_true] at h; exact h.2
theorem fol_strat {m : Mod} {fa : List Bool} {l : List (List Int)} (hM : MOk m) (hp : Plays m l) (hs : ∀ x ∈ l, isSolB m x = true) : ∀ (k : Nat) (x : List Int), x.length + k = m.doms.length → preL l x ≠ [] → folB m fa k (preL l x) = stratB m fa l k x
  | 0, x, hl, hne => by
    have hx : ∀ y ∈ preL l x, y = x := fun y hy => by
      have h1 := mem_preL.1 hy
      have h2 := (hp.v y h1.1).1
      have h3 := h1.2
      rw [List.take_of_length_le (by omega)] at h3; exact h3
    have h1 : (preL l x).length = 1 := one_len (hp.nd.filter _ : (preL l x).Pairwise (· ≠ ·)) hx hne
    obtain ⟨y, hy⟩ := List.exists_mem_of_ne_nil _ hne
    have h2 := hx y hy
    rw [folB, stratB, h1]
    rw [← h2, sol_met (hs y (mem_preL.1 hy).1)]; rfl
  | k + 1, x, hl, hne => by
    have hi : m.doms.length - (k + 1) = x.length := by omega
    have hd := hM.d (k := x.length) (by omega)
    rw [folB, stratB, hi]
    congr 1
    · by_cases hf : fa.getD x.length false = true
      · rw [if_pos hf, if_pos hf, Bool.eq_iff_iff, decide_eq_true_eq, decide_eq_true_eq]
        constructor
        · intro e; rw [e]
        · intro e; exact valsI_inj (takM_in _ _) hd e
      · rw [if_neg hf, if_neg hf]; rfl
    · rw [Bool.eq_iff_iff, List.all_eq_true, List.all_eq_true]
      have key : ∀ v ∈ valsI (takM (preL l x) x.length), folB m fa k ((preL l x).filter (fun y => !(decide (y.getD x.length 0 ≠ v)))) = ((withinB v 0 5 && hasB (m.doms.getD x.length 0) v) && stratB m fa l k (x ++ [v])) := fun v hv => by
        obtain ⟨h5, y, hy, e⟩ := takM_vals.1 hv
        have hy1 := mem_preL.1 hy
        have hyl := (hp.v y hy1.1).1
        rw [← preL_snoc (fun z hz => (hp.v z hz).1) (by omega) v]
        have hy2 : y ∈ preL l (x ++ [v]) := mem_preL.2 ⟨hy1.1, (pre_snoc (by omega)).2 ⟨hy1.2, e.symm⟩⟩
        rw [fol_strat hM hp hs k (x ++ [v]) (by simp; omega) (List.ne_nil_of_mem hy2)]
        have h6 := sol_dom (hs y hy1.1) (i := x.length) (by omega)
        rw [e, h6, withinB_iff.2 (by rw [← e]; exact h5)]; rfl
      exact ⟨fun h v hv => (key v hv) ▸ h v hv, fun h v hv => (key v hv).symm ▸ h v hv⟩
theorem strat_sol {m : Mod} {fa : List Bool} {l : List (List Int)} (hp : Plays m l) : ∀ (k : Nat) (x : List Int), x.length + k = m.doms.length → stratB m fa l k x = true → ∀ y ∈ preL l x, (∀ j, x.length ≤ j → j < m.doms.length → hasB (m.doms.getD j 0) (y.getD j 0) = true) ∧ metB m y = true
  | 0, x, hl, h, y, hy => by
    have h1 := mem_preL.1 hy
    have h2 := (hp.v y h1.1).1
    have h3 := h1.2
    rw [List.take_of_length_le (by omega)] at h3
    exact ⟨fun j h1 h2 => by omega, by rw [h3]; exact h⟩
  | k + 1, x, hl, h, y, hy => by
    rw [stratB, Bool.and_eq_true] at h
    have h1 := mem_preL.1 hy
    have h2 := hp.v y h1.1
    have h5 := h2.2.at (k := x.length) (by omega)
    have hv : y.getD x.length 0 ∈ valsI (takM (preL l x) x.length) := takM_vals.2 ⟨h5, y, hy, rfl⟩
    have h6 := List.all_eq_true.1 h.2 _ hv
    simp only [Bool.and_eq_true] at h6
    have h7 := strat_sol hp k (x ++ [y.getD x.length 0]) (by simp; omega) h6.2 y (mem_preL.2 ⟨h1.1, (pre_snoc (by omega)).2 ⟨h1.2, rfl⟩⟩)
    refine ⟨fun j h8 h9 => ?_, h7.2⟩
    by_cases e : j = x.length
    · subst e; exact h6.1.2
    · exact h7.1 j (by simp; omega) h9
theorem strat_all {m : Mod} {fa : List Bool} {l : List (List Int)} (hp : Plays m l) (h : stratB m fa l m.doms.length [] = true) : ∀ y ∈ l, isSolB m y = true := fun y hy => by
  have h1 := strat_sol hp m.doms.length [] (by simp) h y (by rw [preL_nil]; exact hy)
  unfold isSolB inDomB
  rw [h1.2, Bool.and_true, List.all_eq_true]
  intro j hj
  exact h1.1 j (Nat.zero_le _) (by rw [← (hp.v y hy).1]; exact List.mem_range.1 hj)
theorem strat_nil {m : Mod} {fa : List Bool} (hM : MOk m) (h0 : m.doms.contains 0 = false) : stratB m fa [] m.doms.length [] = false := by
  have hn := hM.n
  obtain ⟨k, hk⟩ : ∃ k, m.doms.length = k + 1 := ⟨m.doms.length - 1, by omega⟩
  rw [hk, stratB]
  have e : takM (preL [] []) ([] : List Int).length = 0 := takM_0 _
  rw [e]
  have e2 : valsI 0 = [] := by decide +kernel
  rw [e2]
  by_cases hf : fa.getD ([] : List Int).length false = true
  · rw [if_pos hf]
    have : ¬ ([] : List Int) = valsI (m.doms.getD ([] : List Int).length 0) := fun e3 => by
      have hd := hM.d (k := 0) (by omega)
      have := valsI_inj (d := 0) (by omega) hd (by rw [e2]; exact e3)
      have hm : m.doms.getD 0 0 ∈ m.doms := getD_mem (by omega)
      rw [← this] at hm
      have : m.doms.contains 0 = true := by simpa using hm
      rw [h0] at this; cases this
    rw [decide_eq_false this]; rfl
  · rw [if_neg hf]; rfl
theorem pl_split (m : Mod) (l : List (List Int)) (k : Nat) : plI m l k = (plS m l k && isSolB m (l.getD k [])) := by
  unfold plI plS; cases asgB m (l.getD k []) <;> cases isSolB m (l.getD k []) <;> cases incI l k <;> rfl
theorem chk_eq (m : Mod) (fa : List Bool) (l : List (List Int)) : chkI m fa l = chkS m fa l := by
  unfold chkI chkS
  have hg : gOkB m fa = (fOkB m fa && !(m.doms.contains 0)) := rfl
  rw [hg]
  cases hf : (fOkB m fa && !(m.doms.contains 0)) with
  | false => rfl
  | true =>
    simp only [Bool.and_eq_true, Bool.not_eq_true'] at hf
    have hM := (fok hf.1).1
    simp only [Bool.true_and]
    cases hp : plTo (plS m l) l.length with
    | false =>
      have : plTo (plI m l) l.length = false := by
        cases e : plTo (plI m l) l.length with
        | false => rfl
        | true =>
          have : plTo (plS m l) l.length = true := by
            unfold plTo at e ⊢; rw [List.all_eq_true] at e ⊢
            intro j hj; have := e j hj; rw [pl_split, Bool.and_eq_true] at this; exact this.1
          rw [hp] at this; cases this
      rw [this]; simp
    | true =>
      have hP := plays_of hp
      simp only [Bool.true_and]
      by_cases hs : ∀ x ∈ l, isSolB m x = true
      · have hpi : plTo (plI m l) l.length = true := by
          unfold plTo at hp ⊢; rw [List.all_eq_true] at hp ⊢
          intro j hj
          rw [pl_split, hp j hj, hs _ (getD_mem (List.mem_range.1 hj))]; rfl
        rw [hpi, Bool.true_and]
        by_cases hn : l = []
        · subst hn; rw [strat_nil hM hf.2]; rfl
        · have h0 : decide ((l.length : Int) = 0) = false := decide_eq_false (fun e => hn (List.eq_nil_of_length_eq_zero (by omega)))
          rw [h0]
          have := fol_strat (fa := fa) hM hP hs m.doms.length [] (by simp) (by rw [preL_nil]; exact hn)
          rw [preL_nil] at this
          rw [this]; rfl
      · have h1 : stratB m fa l m.doms.length [] = false := by
          cases e : stratB m fa l m.doms.length [] with
          | false => rfl
          | true => exact absurd (strat_all hP e) hs
        rw [h1]
        have h2 : plTo (plI m l) l.length = false := by
          cases e : plTo (plI m l) l.length with
          | false => rfl
          | true =>
            refine absurd (fun x hx => ?_) hs
            obtain ⟨i, hi, rfl⟩ := List.getElem_of_mem hx
            have h3 := plTo_at e hi
            rw [pl_split, Bool.and_eq_true] at h3
            have h4 := h3.2
            rwa [List.getD_eq_getElem?_getD, List.getElem?_eq_getElem hi, Option.getD_some] at h4
        rw [h2]; simp
/-! What follows from a strategy. -/
theorem strat_win {m : Mod} {fa : List Bool} {l : List (List Int)} (hM : MOk m) : ∀ (k : Nat) (x : List Int), x.length + k = m.doms.length → stratB m fa l k x = true → winB m fa k x = true
  | 0, x, _, h => h
  | k + 1, x, hl, h => by
    rw [stratB, Bool.and_eq_true] at h
    rw [winB]
    have h2 := List.all_eq_true.1 h.2
    by_cases hf : fa.getD x.length false = true
    · rw [if_pos hf]
      have h1 := h.1
      rw [if_pos hf, decide_eq_true_eq] at h1
      rw [List.all_eq_true]
      intro v hv
      have h3 := h2 v (by rw [h1]; exact hv)
      rw [Bool.and_eq_true] at h3
      exact strat_win hM k (x ++ [v]) (by simp; omega) h3.2
    · rw [if_neg hf]
      have h1 := h.1
      rw [if_neg hf, decide_eq_true_eq] at h1
      have hm : (valsI (takM (preL l x) x.length)).getD 0 0 ∈ valsI (takM (preL l x) x.length) := getD_mem (by omega)
      have h3 := h2 _ hm
      simp only [Bool.and_eq_true] at h3
      rw [List.any_eq_true]
      exact ⟨_, mem_valsI.2 ⟨withinB_iff.1 h3.1.1, h3.1.2⟩, strat_win hM k (x ++ [_]) (by simp; omega) h3.2⟩
theorem chkS_ok {m : Mod} {fa : List Bool} {l : List (List Int)} (h : chkS m fa l = true) : fOkB m fa = true ∧ m.doms.contains 0 = false ∧ MOk m ∧ Plays m l ∧ stratB m fa l m.doms.length [] = true := by
  unfold chkS at h; simp only [Bool.and_eq_true, Bool.not_eq_true'] at h
  exact ⟨h.1.1, h.1.2, (fok h.1.1).1, plays_of h.2.1, h.2.2⟩
theorem chk_true {m : Mod} {fa : List Bool} {l : List (List Int)} (h : chkI m fa l = true) : qtrueB m fa = true := by
  rw [chk_eq] at h
  obtain ⟨h1, h2, hM, hP, h3⟩ := chkS_ok h
  unfold qtrueB; rw [h1, strat_win hM _ [] (by simp) h3]; rfl
theorem chk_sol {m : Mod} {fa : List Bool} {l : List (List Int)} (h : chkI m fa l = true) {x : List Int} (hx : x ∈ l) : isSolT m x = true := by
  rw [chk_eq] at h
  obtain ⟨h1, h2, hM, hP, h3⟩ := chkS_ok h
  unfold isSolT
  have hv := hP.v x hx
  rw [strat_all hP h3 x hx, hM.v, decide_eq_true (by omega : (x.length : Int) = (m.doms.length : Int)), allIn_of hv.2]; rfl
theorem strat_min {m : Mod} {fa : List Bool} {l q : List (List Int)} (hP : Plays m l) (hq : ∀ z ∈ q, z ∈ l) {y : List Int} (hy : y ∈ l) (hyq : y ∉ q) : ∀ (k : Nat) (x : List Int), x.length + k = m.doms.length → stratB m fa l k x = true → stratB m fa q k x = true → y.take x.length = x → preL q x ≠ [] → False
  | 0, x, hl, _, _, hx, hne => by
    obtain ⟨z, hz⟩ := List.exists_mem_of_ne_nil _ hne
    have h1 := mem_preL.1 hz
    have h2 := (hP.v z (hq z h1.1)).1
    have h3 := (hP.v y hy).1
    have h4 := h1.2
    rw [List.take_of_length_le (by omega)] at h4 hx
    rw [hx, ← h4] at hyq; exact hyq h1.1
  | k + 1, x, hl, h, g, hx, hne => by
    have hyv := hP.v y hy
    have h5 := hyv.2.at (k := x.length) (by omega)
    rw [stratB, Bool.and_eq_true] at h g
    have hv : y.getD x.length 0 ∈ valsI (takM (preL l x) x.length) := takM_vals.2 ⟨h5, y, mem_preL.2 ⟨hy, hx⟩, rfl⟩
    have hv2 : y.getD x.length 0 ∈ valsI (takM (preL q x) x.length) := by
      by_cases hf : fa.getD x.length false = true
      · have h1 := h.1; have g1 := g.1
        rw [if_pos hf, decide_eq_true_eq] at h1 g1
        rw [g1, ← h1]; exact hv
      · have h1 := h.1; have g1 := g.1
        rw [if_neg hf, decide_eq_true_eq] at h1 g1
        have hm : (valsI (takM (preL q x) x.length)).getD 0 0 ∈ valsI (takM (preL q x) x.length) := getD_mem (by omega)
        obtain ⟨h6, z, hz, e⟩ := takM_vals.1 hm
        have hz1 := mem_preL.1 hz
        have hm2 : (valsI (takM (preL q x) x.length)).getD 0 0 ∈ valsI (takM (preL l x) x.length) := takM_vals.2 ⟨h6, z, mem_preL.2 ⟨hq z hz1.1, hz1.2⟩, e⟩
        match hl1 : valsI (takM (preL l x) x.length), h1 with
        | [a], _ =>
          rw [hl1, List.mem_singleton] at hv hm2
          rw [hv, ← hm2]; exact hm
    have g6 := List.all_eq_true.1 g.2 _ hv2
    have h6 := List.all_eq_true.1 h.2 _ hv
    simp only [Bool.and_eq_true] at g6 h6
    obtain ⟨_, z, hz, e⟩ := takM_vals.1 hv2
    have hz1 := mem_preL.1 hz
    have hzl := (hP.v z (hq z hz1.1)).1
    exact strat_min hP hq hy hyq k (x ++ [y.getD x.length 0]) (by simp; omega) h6.2 g6.2 ((pre_snoc (by omega)).2 ⟨hx, rfl⟩) (List.ne_nil_of_mem (mem_preL.2 ⟨hz1.1, (pre_snoc (by omega)).2 ⟨hz1.2, e.symm⟩⟩))
/-- No play can be spared. -/
theorem chk_less {m : Mod} {fa : List Bool} {l : List (List Int)} {i : Nat} (h : chkI m fa l = true) (hi : i < l.length) : chkI m fa (l.take i ++ l.drop (i + 1)) = false := by
  cases g : chkI m fa (l.take i ++ l.drop (i + 1)) with
  | false => rfl
  | true =>
    exfalso
    have hne : l.take i ++ l.drop (i + 1) ≠ [] := fun e => by
      rw [e] at g; unfold chkI at g; simp at g
    rw [chk_eq] at h g
    obtain ⟨h1, h2, hM, hP, h3⟩ := chkS_ok h
    obtain ⟨_, _, _, _, g3⟩ := chkS_ok g
    have hl : l = l.take i ++ l[i] :: l.drop (i + 1) := by rw [← List.drop_eq_getElem_cons hi, List.take_append_drop]
    have hq : ∀ z ∈ l.take i ++ l.drop (i + 1), z ∈ l := fun z hz => by
      rcases List.mem_append.1 hz with h4 | h4
      · exact List.mem_of_mem_take h4
      · exact List.mem_of_mem_drop h4
    have hyq : l[i] ∉ l.take i ++ l.drop (i + 1) := fun hm => by
      have nd := hP.nd
      rw [hl, List.pairwise_append] at nd
      rcases List.mem_append.1 hm with h4 | h4
      · exact nd.2.2 _ h4 _ (.head _) rfl
      · exact (List.pairwise_cons.1 nd.2.1).1 _ h4 rfl
    exact strat_min hP hq (List.getElem_mem hi) hyq m.doms.length [] (by simp) h3 g3 (by simp) (by rw [preL_nil]; exact hne)
/-! For the walks. -/
def folC (m : Mod) (fa : List Bool) (i : Nat) (t : Int) : Bool := if fa.getD i false = true then decide (t = m.doms.getD i 0) else decide (popI t = 1)
theorem folC_eq (m : Mod) (fa : List Bool) (i : Nat) (t : Int) : ((fa.getD i false && decide (t ≠ m.doms.getD i 0)) || (!(fa.getD i false) && decide (popI t ≠ 1))) = !(folC m fa i t) := by
  unfold folC; cases fa.getD i false <;> simp
section fol
variable {m : Mod} {fa : List Bool} {k q : Nat} {l : List (List Int)} {i t : Int}
theorem fol_no (hi : i.toNat = m.doms.length - (k + 1)) (ht : t = takM l i.toNat) (c : ((fa.getD i.toNat false && decide (t ≠ m.doms.getD i.toNat 0)) || (!(fa.getD i.toNat false) && decide (popI t ≠ 1))) = true) : false = folB m fa (k + 1) l := by
  rw [folC_eq] at c
  rw [folB, ← hi, ← ht]
  have : (if fa.getD i.toNat false = true then decide (t = m.doms.getD i.toNat 0) else decide (popI t = 1)) = false := by simpa [folC] using c
  rw [this]; rfl
theorem fol_at (hi : i.toNat = m.doms.length - (k + 1)) (ht : t = takM l i.toNat) (hq : q < (valsI t).length) (c : (!(folB m fa k (l.filter (fun r => !(decide (r.getD i.toNat 0 ≠ (valsI t).getD q 0)))))) = true) : false = folB m fa (k + 1) l := by
  rw [folB, ← hi, ← ht]
  have : (valsI t).all (fun v => folB m fa k (l.filter (fun x => !(decide (x.getD i.toNat 0 ≠ v))))) = false := by
    rw [List.all_eq_false]; exact ⟨_, getD_mem (d := (0 : Int)) hq, by simpa using c⟩
  rw [this, Bool.and_false]
theorem fol_yes (hi : i.toNat = m.doms.length - (k + 1)) (ht : t = takM l i.toNat) (c : ((fa.getD i.toNat false && decide (t ≠ m.doms.getD i.toNat 0)) || (!(fa.getD i.toNat false) && decide (popI t ≠ 1))) = false) (hq : q = (valsI t).length)
    (h : ((valsI t).take q).all (fun v => folB m fa k (l.filter (fun x => !(decide (x.getD i.toNat 0 ≠ v))))) = true) : true = folB m fa (k + 1) l := by
  rw [folC_eq] at c
  rw [folB, ← hi, ← ht]
  have : (if fa.getD i.toNat false = true then decide (t = m.doms.getD i.toNat 0) else decide (popI t = 1)) = true := by simpa [folC] using c
  rw [hq, List.take_length] at h
  rw [this, h]; rfl
/-- The part that goes on with a value of the list. -/
theorem fol_ne {j : Nat} (ht : t = takM l j) (hq : q < (valsI t).length) : 0 < (l.filter (fun r => !(decide (r.getD j 0 ≠ (valsI t).getD q 0)))).length := by
  have hm := getD_mem (d := (0 : Int)) hq
  rw [ht] at hm
  obtain ⟨_, x, hx, e⟩ := takM_vals.1 hm
  rw [← ht] at e
  exact List.length_pos_of_mem (List.mem_filter.2 ⟨hx, by rw [e]; simp⟩)
end fol
section strat
variable {m : Mod} {fa : List Bool} {k q : Nat} {l : List (List Int)} {x : List Int}
theorem strat_no (c : ((fa.getD x.length false && !(decide (valsI (takM (preL l x) x.length) = valsI (m.doms.getD x.length 0)))) || (!(fa.getD x.length false) && decide (((valsI (takM (preL l x) x.length)).length : Int) ≠ 1))) = true) : false = stratB m fa l (k + 1) x := by
  rw [stratB]
  revert c
  cases fa.getD x.length false <;> simp <;> intro c <;> simp [c]
theorem strat_at1 (hq : q < (valsI (takM (preL l x) x.length)).length) (c : (!(withinB ((valsI (takM (preL l x) x.length)).getD q 0) 0 5 && hasB (m.doms.getD x.length 0) ((valsI (takM (preL l x) x.length)).getD q 0))) = true) : false = stratB m fa l (k + 1) x := by
  rw [stratB]
  have : (valsI (takM (preL l x) x.length)).all (fun v => (withinB v 0 5 && hasB (m.doms.getD x.length 0) v) && stratB m fa l k (x ++ [v])) = false := by
    rw [List.all_eq_false]; refine ⟨_, getD_mem (d := (0 : Int)) hq, ?_⟩
    rw [Bool.not_eq_true'] at c; rw [c]; simp
  rw [this, Bool.and_false]
theorem strat_at2 (hq : q < (valsI (takM (preL l x) x.length)).length) (c : (!(stratB m fa l k (x ++ [(valsI (takM (preL l x) x.length)).getD q 0]))) = true) : false = stratB m fa l (k + 1) x := by
  rw [stratB]
  have : (valsI (takM (preL l x) x.length)).all (fun v => (withinB v 0 5 && hasB (m.doms.getD x.length 0) v) && stratB m fa l k (x ++ [v])) = false := by
    rw [List.all_eq_false]; refine ⟨_, getD_mem (d := (0 : Int)) hq, ?_⟩
    rw [Bool.not_eq_true'] at c; rw [c]; simp
  rw [this, Bool.and_false]
theorem strat_yes (c : ((fa.getD x.length false && !(decide (valsI (takM (preL l x) x.length) = valsI (m.doms.getD x.length 0)))) || (!(fa.getD x.length false) && decide (((valsI (takM (preL l x) x.length)).length : Int) ≠ 1))) = false) (hq : q = (valsI (takM (preL l x) x.length)).length)
    (h : ((valsI (takM (preL l x) x.length)).take q).all (fun v => (withinB v 0 5 && hasB (m.doms.getD x.length 0) v) && stratB m fa l k (x ++ [v])) = true) : true = stratB m fa l (k + 1) x := by
  rw [hq, List.take_length] at h
  rw [stratB, h]
  revert c
  cases fa.getD x.length false <;> simp <;> intro c <;> simp [c]
theorem strat_step (hq : q < (valsI (takM (preL l x) x.length)).length) (h : ((valsI (takM (preL l x) x.length)).take q).all (fun v => (withinB v 0 5 && hasB (m.doms.getD x.length 0) v) && stratB m fa l k (x ++ [v])) = true)
    (c1 : (!(withinB ((valsI (takM (preL l x) x.length)).getD q 0) 0 5 && hasB (m.doms.getD x.length 0) ((valsI (takM (preL l x) x.length)).getD q 0))) = false) (c2 : (!(stratB m fa l k (x ++ [(valsI (takM (preL l x) x.length)).getD q 0]))) = false) :
    ((valsI (takM (preL l x) x.length)).take (q + 1)).all (fun v => (withinB v 0 5 && hasB (m.doms.getD x.length 0) v) && stratB m fa l k (x ++ [v])) = true :=
  all_take_step (d := 0) hq h (by rw [Bool.not_eq_false'] at c1 c2; rw [c1, c2]; rfl)
theorem preL_T (hk : k < l.length) (c : (l.getD k []).take x.length = x) : preL (l.take (k + 1)) x = preL (l.take k) x ++ [l.getD k []] := by
  unfold preL; rw [take_succ_getD [] hk, List.filter_append, List.filter_cons, if_pos (by simpa using c)]; rfl
theorem preL_F (hk : k < l.length) (c : ¬ (l.getD k []).take x.length = x) : preL (l.take (k + 1)) x = preL (l.take k) x := by
  unfold preL; rw [take_succ_getD [] hk, List.filter_append, List.filter_cons, if_neg (by simpa using c)]; simp
theorem takP_T {d : Int} (hk : k < l.length) (h : d = takM (preL (l.take k) x) x.length) (hv : 0 ≤ (l.getD k []).getD x.length 0 ∧ (l.getD k []).getD x.length 0 ≤ 5) (c : (decide ((l.getD k []).take x.length = x) && !(withinB ((l.getD k []).getD x.length 0) 0 5 && hasB d ((l.getD k []).getD x.length 0))) = true) :
    d + ishl 1 ((l.getD k []).getD x.length 0) = takM (preL (l.take (k + 1)) x) x.length := by
  subst h
  simp only [Bool.and_eq_true, decide_eq_true_eq, Bool.not_eq_true', withinB_iff.2 hv, Bool.true_and] at c
  rw [preL_T hk c.1, takM_snoc, add_has (takM_in _ _) hv c.2]
theorem takP_F {d : Int} (hk : k < l.length) (h : d = takM (preL (l.take k) x) x.length) (hv : 0 ≤ (l.getD k []).getD x.length 0 ∧ (l.getD k []).getD x.length 0 ≤ 5) (c : (decide ((l.getD k []).take x.length = x) && !(withinB ((l.getD k []).getD x.length 0) 0 5 && hasB d ((l.getD k []).getD x.length 0))) = false) :
    d = takM (preL (l.take (k + 1)) x) x.length := by
  subst h
  rw [withinB_iff.2 hv, Bool.true_and] at c
  by_cases e : (l.getD k []).take x.length = x
  · rw [decide_eq_true e, Bool.true_and, Bool.not_eq_false'] at c
    rw [preL_T hk e, takM_snoc]
    refine dom_ext (takM_in _ _) (maskP_in _) (fun v hv => ?_)
    rw [maskP_has hv]
    by_cases e2 : v = (l.getD k []).getD x.length 0
    · rw [e2, c]; rfl
    · rw [decide_eq_false e2, Bool.or_false]
  · rw [preL_F hk e]
end strat
theorem lexl_hit {a b : List Int} {k : Nat} (hl : a.length = b.length) (hk : k < a.length) (e : a.take k = b.take k) (h : a.getD k 0 ≠ b.getD k 0) : decide (a.getD k 0 < b.getD k 0) = decide (lexC a b < 0) := by
  have hc : cmpI (a.getD k 0) (b.getD k 0) ≠ 0 := fun e2 => h (cmpI_0 e2)
  rw [← lexC_hit hl hk e hc, Bool.eq_iff_iff, decide_eq_true_eq, decide_eq_true_eq]
  unfold cmpI
  constructor
  · intro h2; rw [if_pos h2]; decide
  · intro h2; split at h2
    · assumption
    · split at h2 <;> omega
theorem lexl_end {a b : List Int} {k : Nat} (hl : a.length = b.length) (hk : k = a.length) (e : a.take k = b.take k) : false = decide (lexC a b < 0) := by
  rw [← lexC_end hl hk e]; rfl
section pl
variable {m : Mod} {fa : List Bool} {l : List (List Int)} {k : Nat}
theorem pl_lenI (h : plTo (plI m l) k = true) {j : Nat} (hj : j < k) : (l.getD j []).length = m.doms.length ∧ Vals (l.getD j []) := by
  have := plTo_at h hj
  rw [pl_split, Bool.and_eq_true] at this
  have := this.1
  unfold plS at this; simp only [Bool.not_eq_true', Bool.or_eq_false_iff, Bool.not_eq_false'] at this
  exact asg_ok this.1
theorem pl_lenS (h : plTo (plS m l) k = true) {j : Nat} (hj : j < k) : (l.getD j []).length = m.doms.length ∧ Vals (l.getD j []) := by
  have := plTo_at h hj
  unfold plS at this; simp only [Bool.not_eq_true', Bool.or_eq_false_iff, Bool.not_eq_false'] at this
  exact asg_ok this.1
theorem pl_allI (h : plTo (plI m l) k = true) (hk : k = l.length) : ∀ x ∈ l, x.length = m.doms.length ∧ Vals x := fun x hx => by
  obtain ⟨i, hi, rfl⟩ := List.getElem_of_mem hx
  have := pl_lenI h (j := i) (by omega)
  rwa [List.getD_eq_getElem?_getD, List.getElem?_eq_getElem hi, Option.getD_some] at this
theorem pl_allS (h : plTo (plS m l) k = true) (hk : k = l.length) : ∀ x ∈ l, x.length = m.doms.length ∧ Vals x := fun x hx => by
  obtain ⟨i, hi, rfl⟩ := List.getElem_of_mem hx
  have := pl_lenS h (j := i) (by omega)
  rwa [List.getD_eq_getElem?_getD, List.getElem?_eq_getElem hi, Option.getD_some] at this
theorem pl_no {p : Nat → Bool} (hk : k < l.length) (c : p k = false) : plTo p l.length = false := by
  cases e : plTo p l.length with
  | false => rfl
  | true => rw [plTo_at e hk] at c; cases c
theorem chkI_0 (c : (!(gOkB m fa) || decide ((l.length : Int) = 0)) = true) : false = chkI m fa l := by
  unfold chkI; revert c; cases gOkB m fa <;> cases decide ((l.length : Int) = 0) <;> simp
theorem chkI_ok (c : (!(gOkB m fa) || decide ((l.length : Int) = 0)) = false) : gOkB m fa = true ∧ 0 < l.length ∧ MOk m ∧ fa.length = m.doms.length := by
  simp only [Bool.or_eq_false_iff, Bool.not_eq_false', decide_eq_false_iff_not] at c
  have h := c.1
  unfold gOkB at h; rw [Bool.and_eq_true] at h
  exact ⟨c.1, by omega, (fok h.1).1, (fok h.1).2⟩
theorem chkI_at (hk : k < l.length) (c : plI m l k = false) : false = chkI m fa l := by
  unfold chkI; rw [pl_no hk c]; simp
theorem chkI_end (c : (!(gOkB m fa) || decide ((l.length : Int) = 0)) = false) (hk : k = l.length) (h : plTo (plI m l) k = true) : folB m fa m.doms.length l = chkI m fa l := by
  unfold chkI
  simp only [Bool.or_eq_false_iff, Bool.not_eq_false'] at c
  rw [c.1, c.2, ← hk, h]; simp
theorem chkS_0 (c : (!(fOkB m fa) || m.doms.contains 0) = true) : false = chkS m fa l := by
  unfold chkS; revert c; cases fOkB m fa <;> cases m.doms.contains 0 <;> simp
theorem chkS_go (c : (!(fOkB m fa) || m.doms.contains 0) = false) : fOkB m fa = true ∧ m.doms.contains 0 = false ∧ MOk m ∧ fa.length = m.doms.length := by
  simp only [Bool.or_eq_false_iff, Bool.not_eq_false'] at c
  exact ⟨c.1, c.2, (fok c.1).1, (fok c.1).2⟩
theorem chkS_at (hk : k < l.length) (c : plS m l k = false) : false = chkS m fa l := by
  unfold chkS; rw [pl_no hk c]; simp
theorem chkS_end (c : (!(fOkB m fa) || m.doms.contains 0) = false) (hk : k = l.length) (h : plTo (plS m l) k = true) : stratB m fa l m.doms.length [] = chkS m fa l := by
  unfold chkS
  simp only [Bool.or_eq_false_iff, Bool.not_eq_false'] at c
  rw [c.1, c.2, ← hk, h]; simp
theorem plI_c {b : Bool} (c : ((!(decide (((l.getD k []).length : Int) = (m.doms.length : Int)) && allInB (l.getD k []) 0 5) || !(isSolB m (l.getD k []))) || (decide ((0 : Int) < (k : Int)) && decide (0 ≤ lexC (l.getD ((k : Int) - 1).toNat []) (l.getD k [])))) = b) : plI m l k = !b := by
  unfold plI incI; rw [← c]
theorem plS_c {b : Bool} (c : (!(decide (((l.getD k []).length : Int) = (m.doms.length : Int)) && allInB (l.getD k []) 0 5) || (decide ((0 : Int) < (k : Int)) && !(decide (lexC (l.getD ((k : Int) - 1).toNat []) (l.getD k []) < 0)))) = b) : plS m l k = !b := by
  have e : (!(decide (lexC (l.getD ((k : Int) - 1).toNat []) (l.getD k []) < 0))) = decide (0 ≤ lexC (l.getD ((k : Int) - 1).toNat []) (l.getD k [])) := by
    rw [Bool.eq_iff_iff]; simp
  rw [e] at c
  unfold plS incI; rw [← c]
end pl
/-! Deleting in place. -/
structure DelI (p : List Int → Bool) (xs ys : List (List Int)) (i j : Nat) : Prop where
  ij : i < j
  jl : j ≤ xs.length
  l : ys.length = xs.length
  t : ys.take i = (xs.take j).filter (fun r => !(p r))
  d : ys.drop j = xs.drop j
theorem DelI.at {p : List Int → Bool} {xs ys : List (List Int)} {i j : Nat} (h : DelI p xs ys i j) (hj : j < xs.length) : ys.getD j [] = xs.getD j [] := by
  have h1 := h.d
  have h2 := h.l
  rw [List.drop_eq_getElem_cons (by omega : j < ys.length), List.drop_eq_getElem_cons hj] at h1
  have := (List.cons.inj h1).1
  simp [List.getD, hj, this, show j < ys.length by omega]
theorem delI_none {p : List Int → Bool} {xs : List (List Int)} (h : indexBy p xs = -1) : xs = xs.filter (fun r => !(p r)) := by
  unfold indexBy at h
  cases e : xs.findIdx? p with
  | some i => rw [e] at h; simp only at h; omega
  | none =>
    rw [List.findIdx?_eq_none_iff] at e
    symm; rw [List.filter_eq_self]; intro x hx; simp [e x hx]
theorem delI_0 {p : List Int → Bool} {xs : List (List Int)} (h : ¬ indexBy p xs = -1) : 0 ≤ indexBy p xs ∧ indexBy p xs < (xs.length : Int) ∧ DelI p xs xs (indexBy p xs).toNat ((indexBy p xs).toNat + 1) := by
  unfold indexBy at h ⊢
  cases e : xs.findIdx? p with
  | none => rw [e] at h; exact absurd rfl h
  | some i =>
    rw [List.findIdx?_eq_some_iff_getElem] at e
    obtain ⟨hi, hp, hj⟩ := e
    simp only [Int.toNat_natCast]
    refine ⟨by omega, by omega, by omega, hi, rfl, ?_, rfl⟩
    rw [take_succ_getD [] hi, List.filter_append, List.filter_cons, show xs.getD i [] = xs[i] from by simp [List.getD, hi], hp]
    simp only [Bool.not_true, Bool.false_eq_true, if_false, List.filter_nil, List.append_nil]
    symm; rw [List.filter_eq_self]
    intro x hx
    obtain ⟨q, hq, rfl⟩ := List.getElem_of_mem hx
    rw [List.length_take] at hq
    have := hj q (by omega)
    rw [List.getElem_take]; simpa using this
theorem DelI.keep {p : List Int → Bool} {xs ys : List (List Int)} {i j : Nat} (h : DelI p xs ys i j) (hj : j < xs.length) (c : p (ys.getD j []) = false) : DelI p xs (ys.set i (ys.getD j [])) (i + 1) (j + 1) := by
  have h1 := h.at hj
  have h2 := h.l
  have h3 := h.ij
  refine ⟨by omega, hj, by simp [h2], ?_, ?_⟩
  · rw [take_succ_getD [] hj, List.filter_append, ← h.t, List.filter_cons, ← h1, c]
    rw [take_succ_getD [] (by simp; omega), List.take_set_of_le (by omega)]
    simp [List.getD, show i < ys.length by omega]
  · have h4 : (ys.set i (ys.getD j [])).drop (j + 1) = ys.drop (j + 1) := by rw [List.drop_set, if_pos (by omega)]
    rw [h4]
    have := congrArg List.tail h.d
    simpa using this
theorem DelI.skip {p : List Int → Bool} {xs ys : List (List Int)} {i j : Nat} (h : DelI p xs ys i j) (hj : j < xs.length) (c : p (ys.getD j []) = true) : DelI p xs ys i (j + 1) := by
  have h1 := h.at hj
  have h3 := h.ij
  refine ⟨by omega, hj, h.l, ?_, ?_⟩
  · rw [take_succ_getD [] hj, List.filter_append, ← h.t, List.filter_cons, ← h1, c]; simp
  · have := congrArg List.tail h.d
    simpa using this
theorem DelI.fin {p : List Int → Bool} {xs ys : List (List Int)} {i j : Nat} (h : DelI p xs ys i j) (hj : j = xs.length) : ys.take i = xs.filter (fun r => !(p r)) := by
  have := h.t; rw [hj, List.take_length] at this; exact this
theorem asg_nn {m : Mod} {x : List Int} (h : (!(decide ((x.length : Int) = (m.doms.length : Int)) && allInB x 0 5)) = false) : x.length = m.doms.length ∧ Vals x := asg_ok (by rw [Bool.not_eq_false'] at h; exact h)
end Go.Proofs.YtiilanckbocifaaGreat
