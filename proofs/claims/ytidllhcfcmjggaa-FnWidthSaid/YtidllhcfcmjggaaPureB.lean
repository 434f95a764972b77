/- Plain law: robust assignments: the first values of some variables for which all constraints hold whatever the others are. No program in sight. Conditions: none. -/
import Derived.Test.YtidllhcfcmjggaaPureV
import Derived.Test.YtidllhcfcmjggaaPureX
namespace Go.Proofs.Ytidllhcfcmjggaa
open Go
set_option linter.unusedSimpArgs false
set_option linter.unusedVariables false
def robP (m : Mod) (k : Nat) (x : List Int) : Bool := winB m (List.replicate m.doms.length true) (m.doms.length - k) x
def robFa (n k : Nat) : List Bool := List.replicate k false ++ List.replicate (n - k) true
def robF (m : Mod) (k : Nat) : Option (List Int) := (tupL (m.doms.take k)).find? (robP m k)
def robO : Option (List Int) → List Int × Bool
  | some x => (x, true)
  | none => ([], false)
def robB (m : Mod) (k : Int) : List Int × Bool := if validModB m = true ∧ withinB k 0 (m.doms.length : Int) = true then robO (robF m k.toNat) else ([], false)
theorem win_congr {m : Mod} {fa fb : List Bool} : ∀ (k : Nat) (x : List Int), (∀ i, x.length ≤ i → i < x.length + k → fa.getD i false = fb.getD i false) → winB m fa k x = winB m fb k x
  | 0, x, _ => rfl
  | k + 1, x, h => by
    rw [winB, winB, h x.length (Nat.le_refl _) (by omega)]
    have e : ∀ v : Int, winB m fa k (x ++ [v]) = winB m fb k (x ++ [v]) := fun v => win_congr k (x ++ [v]) (fun i h1 h2 => h i (by simp at h1; omega) (by simp at h2; omega))
    simp only [e]
theorem robFa_F {n k i : Nat} (h : i < k) : (robFa n k).getD i false = false := by
  unfold robFa; rw [List.getD_eq_getElem?_getD, List.getElem?_append, if_pos (by simpa using h)]; simp [h]
theorem robFa_T {n k i : Nat} (h : k ≤ i) (hi : i < n) : (robFa n k).getD i false = true := by
  unfold robFa; rw [List.getD_eq_getElem?_getD, List.getElem?_append, if_neg (by simp; omega)]
  rw [List.getElem?_replicate, if_pos (by simp; omega)]; rfl
theorem robFa_len {n k : Nat} (h : k ≤ n) : (robFa n k).length = n := by unfold robFa; simp; omega
theorem rob_any {m : Mod} {k : Nat} (hk : k ≤ m.doms.length) : ∀ (j : Nat) (p : List Int), p.length + j = k → winB m (robFa m.doms.length k) (j + (m.doms.length - k)) p = (tupL ((m.doms.take k).drop p.length)).any (fun r => robP m k (p ++ r))
  | 0, p, h => by
    rw [List.drop_eq_nil_of_le (by rw [List.length_take]; omega), tupL, Nat.zero_add]
    simp only [List.any_cons, List.any_nil, Bool.or_false, List.append_nil]
    unfold robP
    exact win_congr _ _ (fun i h1 h2 => by rw [robFa_T (by omega) (by omega)]; simp [List.getD, show i < m.doms.length by omega])
  | j + 1, p, h => by
    rw [show j + 1 + (m.doms.length - k) = (j + (m.doms.length - k)) + 1 from by omega, winB, if_neg (by rw [robFa_F (by omega)]; simp)]
    rw [List.drop_eq_getElem_cons (by rw [List.length_take]; omega), tupL, List.any_flatMap]
    rw [show (m.doms.take k)[p.length]'(by rw [List.length_take]; omega) = m.doms.getD p.length 0 from by simp [List.getD, show p.length < m.doms.length by omega]]
    congr 1; funext v
    rw [rob_any hk j (p ++ [v]) (by simp; omega), List.any_map, List.length_append]
    simp [Function.comp_def]
/-- What is left to be found behind the values at hand. -/
def robL (m : Mod) (k : Nat) (p : List Int) : Option (List Int) := ((tupL ((m.doms.take k).drop p.length)).find? (fun r => robP m k (p ++ r))).map (fun r => p ++ r)
theorem robL_0 (m : Mod) (k : Nat) : robL m k [] = robF m k := by unfold robL robF; simp
theorem find_pre {A : Type} {P : A → Bool} : ∀ {xs ys : List A}, xs.any P = false → (xs ++ ys).find? P = ys.find? P
  | [], _, _ => rfl
  | x :: xs, ys, h => by
    simp only [List.any_cons, Bool.or_eq_false_iff] at h
    rw [List.cons_append, List.find?_cons, h.1]; exact find_pre h.2
theorem find_in {A : Type} {P : A → Bool} : ∀ {xs ys : List A}, xs.any P = true → (xs ++ ys).find? P = xs.find? P
  | x :: xs, ys, h => by
    rw [List.cons_append, List.find?_cons, List.find?_cons]
    cases e : P x with
    | true => rfl
    | false =>
      simp only [List.any_cons, e, Bool.false_or] at h
      exact find_in h
theorem find_flat {f : Int → List (List Int)} {P : List Int → Bool} {W : Int → Bool} : ∀ {vs : List Int} {v : Int}, (∀ u ∈ vs, (f u).any P = W u) → vs.find? W = some v → (vs.flatMap f).find? P = (f v).find? P
  | u :: vs, v, h, hv => by
    rw [List.flatMap_cons]
    rw [List.find?_cons] at hv
    cases e : W u with
    | true =>
      rw [e] at hv; simp only [Option.some.injEq] at hv; subst hv
      exact find_in (by rw [h _ (.head _), e])
    | false =>
      rw [e] at hv
      rw [find_pre (by rw [h _ (.head _), e])]
      exact find_flat (fun u hu => h u (.tail _ hu)) hv
theorem rob_go {m : Mod} {k : Nat} {p : List Int} {v : Int} (hk : k ≤ m.doms.length) (hp : p.length < k) (hv : (valsI (m.doms.getD p.length 0)).find? (fun v => winB m (robFa m.doms.length k) (m.doms.length - (p.length + 1)) (p ++ [v])) = some v) : robL m k p = robL m k (p ++ [v]) := by
  have e0 : ∀ u, winB m (robFa m.doms.length k) (m.doms.length - (p.length + 1)) (p ++ [u]) = ((tupL ((m.doms.take k).drop (p.length + 1))).map (fun r => u :: r)).any (fun r => robP m k (p ++ r)) := fun u => by
    have := rob_any hk (k - (p.length + 1)) (p ++ [u]) (by simp; omega)
    rw [show k - (p.length + 1) + (m.doms.length - k) = m.doms.length - (p.length + 1) from by omega] at this
    rw [this, List.any_map, List.length_append]; simp [Function.comp_def]
  unfold robL
  rw [List.drop_eq_getElem_cons (by rw [List.length_take]; omega), tupL]
  rw [show (m.doms.take k)[p.length]'(by rw [List.length_take]; omega) = m.doms.getD p.length 0 from by simp [List.getD, show p.length < m.doms.length by omega]]
  rw [find_flat (P := fun r => robP m k (p ++ r)) (W := fun v => winB m (robFa m.doms.length k) (m.doms.length - (p.length + 1)) (p ++ [v])) (fun u _ => (e0 u).symm) hv, List.find?_map, List.length_append]
  simp [Function.comp_def, List.length_cons]
/-- The greedy walk: x has the first values. -/
structure RobI (m : Mod) (k i : Nat) (x : List Int) : Prop where
  l : x.length = i
  v : Vals x
  w : winB m (robFa m.doms.length k) (m.doms.length - i) x = true
  e : robF m k = robL m k x
theorem robI_0 {m : Mod} {k : Nat} (h : (!(winB m (robFa m.doms.length k) m.doms.length [])) = false) : RobI m k 0 [] := ⟨rfl, vals_nil, by simpa using h, (robL_0 m k).symm⟩
/-- Among the values from j on, the first that wins. -/
def robS (m : Mod) (k : Nat) (p : List Int) (j : Nat) : List Int := p ++ (((valsI (m.doms.getD p.length 0)).drop j).find? (fun v => winB m (robFa m.doms.length k) (m.doms.length - (p.length + 1)) (p ++ [v]))).toList
theorem getD_get {xs : List Int} {j : Nat} (h : j < xs.length) : xs.getD j 0 = xs[j] := by simp [List.getD, h]
theorem robS_end (m : Mod) (k : Nat) (p : List Int) {j : Nat} (hj : (valsI (m.doms.getD p.length 0)).length ≤ j) : robS m k p j = p := by unfold robS; rw [List.drop_eq_nil_of_le hj]; simp
theorem robS_take (m : Mod) (k : Nat) (p : List Int) (j : Nat) : (robS m k p j).take p.length = p := by unfold robS; rw [List.take_append_of_le_length (Nat.le_refl _), List.take_length]
theorem robS_T {m : Mod} {k j : Nat} {p : List Int} (hj : j < (valsI (m.doms.getD p.length 0)).length) (h : winB m (robFa m.doms.length k) (m.doms.length - (p.length + 1)) (p ++ [(valsI (m.doms.getD p.length 0)).getD j 0]) = true) : p ++ [(valsI (m.doms.getD p.length 0)).getD j 0] = robS m k p j := by
  unfold robS
  have e : (valsI (m.doms.getD p.length 0)).getD j 0 = (valsI (m.doms.getD p.length 0))[j] := getD_get hj
  rw [List.drop_eq_getElem_cons hj, List.find?_cons, ← e, h]; rfl
theorem robS_F {m : Mod} {k j : Nat} {p : List Int} (hj : j < (valsI (m.doms.getD p.length 0)).length) (h : winB m (robFa m.doms.length k) (m.doms.length - (p.length + 1)) (p ++ [(valsI (m.doms.getD p.length 0)).getD j 0]) = false) : robS m k p (j + 1) = robS m k p j := by
  unfold robS
  have e : (valsI (m.doms.getD p.length 0)).getD j 0 = (valsI (m.doms.getD p.length 0))[j] := getD_get hj
  rw [List.drop_eq_getElem_cons hj, List.find?_cons, ← e, h]
theorem robS_vals {m : Mod} {k j : Nat} {p : List Int} (hp : Vals p) : Vals (robS m k p j) := fun u hu => by
  unfold robS at hu
  rcases List.mem_append.1 hu with h | h
  · exact hp u h
  · rw [Option.mem_toList] at h
    exact valsI_mem (List.mem_of_mem_drop (List.mem_of_find?_eq_some h))
theorem robI_step {m : Mod} {k i : Nat} {p : List Int} (hk : k ≤ m.doms.length) (hi : i < k) (h : RobI m k i p) : RobI m k (i + 1) (robS m k p 0) := by
  have h0 := h.w
  have hl := h.l
  rw [show m.doms.length - i = (m.doms.length - (p.length + 1)) + 1 from by omega, winB, if_neg (by rw [robFa_F (by omega)]; simp)] at h0
  cases e : (valsI (m.doms.getD p.length 0)).find? (fun v => winB m (robFa m.doms.length k) (m.doms.length - (p.length + 1)) (p ++ [v])) with
  | none =>
    rw [List.find?_eq_none] at e
    obtain ⟨v, hv, hw⟩ := List.any_eq_true.1 h0
    exact absurd hw (e v hv)
  | some v =>
    have e1 : robS m k p 0 = p ++ [v] := by unfold robS; rw [List.drop_zero, e]; rfl
    have hw := List.find?_some e
    refine ⟨by rw [e1]; simp; omega, robS_vals h.v, ?_, by rw [e1, h.e]; exact rob_go hk (by omega) e⟩
    rw [e1, ← hl]; exact hw
theorem robI_end {m : Mod} {k : Nat} {x : List Int} (hk : k ≤ m.doms.length) (h : RobI m k k x) : robF m k = some x := by
  have h0 := h.w
  have := rob_any hk 0 x (by rw [h.l]; rfl)
  rw [Nat.zero_add, h0] at this
  rw [h.e]; unfold robL
  rw [h.l, List.drop_eq_nil_of_le (by rw [List.length_take]; omega), tupL] at this ⊢
  simp only [List.any_cons, List.any_nil, Bool.or_false, List.append_nil] at this
  rw [List.find?_cons]
  simp [← this]
theorem rob_none {m : Mod} {k : Nat} (hk : k ≤ m.doms.length) (h : (!(winB m (robFa m.doms.length k) m.doms.length [])) = true) : robF m k = none := by
  have := rob_any hk k [] (by simp)
  rw [show k + (m.doms.length - k) = m.doms.length from by omega] at this
  simp only [Bool.not_eq_true'] at h
  rw [h] at this
  unfold robF
  rw [List.find?_eq_none]
  simp only [List.length_nil, List.drop_zero, List.nil_append] at this
  intro x hx
  exact List.any_eq_false.1 this.symm x hx
theorem rob_no {m : Mod} {k : Int} (h : (!(validModB m) || !(withinB k 0 (m.doms.length : Int))) = true) : robB m k = ([], false) := by
  unfold robB; rw [if_neg]; rintro ⟨h1, h2⟩; rw [h1, h2] at h; simp at h
theorem rob_ok {m : Mod} {k : Int} (h : (!(validModB m) || !(withinB k 0 (m.doms.length : Int))) = false) : MOk m ∧ 0 ≤ k ∧ k ≤ (m.doms.length : Int) ∧ robB m k = robO (robF m k.toNat) := by
  simp only [Bool.or_eq_false_iff, Bool.not_eq_false'] at h
  have h2 := withinB_iff.1 h.2
  exact ⟨⟨h.1⟩, h2.1, h2.2, by unfold robB; rw [if_pos ⟨h.1, h.2⟩]⟩
/-- The first hit of the round n. -/
theorem rob_hit {m : Mod} {k n : Nat} (hn : n < (tupL (m.doms.take k)).length) (h0 : ((tupL (m.doms.take k)).take n).any (robP m k) = false) (h : robP m k ((tupL (m.doms.take k)).getD n []) = true) : robF m k = some ((tupL (m.doms.take k)).getD n []) := by
  unfold robF
  have e : (tupL (m.doms.take k)).getD n [] = (tupL (m.doms.take k))[n] := by simp [List.getD, hn]
  have e2 : tupL (m.doms.take k) = (tupL (m.doms.take k)).take n ++ (tupL (m.doms.take k)).drop n := (List.take_append_drop n _).symm
  rw [e] at h ⊢
  conv => lhs; rw [e2]
  rw [find_pre h0, List.drop_eq_getElem_cons hn, List.find?_cons, h]
theorem rob_miss {m : Mod} {k : Nat} (h0 : ((tupL (m.doms.take k)).take (tupL (m.doms.take k)).length).any (robP m k) = false) : robF m k = none := by
  rw [List.take_length] at h0
  unfold robF; rw [List.find?_eq_none]; intro x hx; exact List.any_eq_false.1 h0 x hx
theorem rob_len {m : Mod} {k : Int} : (robB m k).1.length ≤ 4 := by
  unfold robB
  by_cases h : validModB m = true ∧ withinB k 0 (m.doms.length : Int) = true
  · rw [if_pos h]
    have hM : MOk m := ⟨h.1⟩
    cases e : robF m k.toNat with
    | none => simp [robO]
    | some x =>
      have hx := (mem_tupL.1 (List.mem_of_find?_eq_some e)).1
      have := hM.n
      simp only [robO]; rw [hx, List.length_take]; omega
  · rw [if_neg h]; simp
def robT (n k j : Nat) : List Bool := List.replicate k false ++ (List.replicate (j - k) true ++ List.replicate (n - j) false)
theorem robT_0 {n k : Nat} (h : k ≤ n) : List.replicate n false = robT n k k := by unfold robT; rw [Nat.sub_self, List.replicate_zero, List.nil_append, List.replicate_append_replicate]; congr 1; omega
theorem robT_len {n k j : Nat} (h : k ≤ j) (hj : j ≤ n) : (robT n k j).length = n := by unfold robT; simp; omega
theorem robT_step {n k j : Nat} {fa : List Bool} {z : Int} (h : k ≤ j) (hj : j < n) (hz : z = (j : Int)) (e : fa = robT n k j) : fa.set z.toNat true = robT n k (j + 1) := by
  subst hz e
  unfold robT
  rw [Int.toNat_natCast, List.set_append_right _ _ (by rw [List.length_replicate]; exact h), List.set_append_right _ _ (by rw [List.length_replicate, List.length_replicate]; exact Nat.le_refl _)]
  rw [List.length_replicate, List.length_replicate, Nat.sub_self]
  rw [show n - j = (n - (j + 1)) + 1 from by omega, List.replicate_succ, List.set_cons_zero, show j + 1 - k = (j - k) + 1 from by omega, List.replicate_succ']
  simp
theorem robT_end {n k j : Nat} {fa : List Bool} (e : fa = robT n k j) (hj : j = n) : fa = robFa n k := by
  subst hj e; unfold robT robFa; rw [Nat.sub_self, List.replicate_zero, List.append_nil]
theorem robS_stepT {m : Mod} {k i : Nat} {x y : List Int} {fa : List Bool} {v : Int} (hfa : fa = robFa m.doms.length k) (hl : x.length = i) (hy : y = robS m k x (v + 1).toNat) (h0 : 0 ≤ v) (hv : v < ((valsI (m.doms.getD i 0)).length : Int)) (hw : winB m fa (m.doms.length - (i + 1)) (y.take i ++ [(valsI (m.doms.getD i 0)).getD v.toNat 0]) = true) :
    y.take i ++ [(valsI (m.doms.getD i 0)).getD v.toNat 0] = robS m k x (v - 1 + 1).toNat := by
  subst hfa hl hy
  rw [robS_take] at hw ⊢
  rw [show v - 1 + 1 = v from by omega]
  exact robS_T (by omega) hw
theorem robS_stepF {m : Mod} {k i : Nat} {x y : List Int} {fa : List Bool} {v : Int} (hfa : fa = robFa m.doms.length k) (hl : x.length = i) (hy : y = robS m k x (v + 1).toNat) (h0 : 0 ≤ v) (hv : v < ((valsI (m.doms.getD i 0)).length : Int)) (hw : winB m fa (m.doms.length - (i + 1)) (y.take i ++ [(valsI (m.doms.getD i 0)).getD v.toNat 0]) = false) :
    y = robS m k x (v - 1 + 1).toNat := by
  subst hfa hl hy
  rw [robS_take] at hw
  rw [show v - 1 + 1 = v from by omega, show (v + 1).toNat = v.toNat + 1 from by omega]
  exact robS_F (by omega) hw
theorem robS_len {m : Mod} {k i j : Nat} {x y : List Int} (hl : x.length = i) (hy : y = robS m k x j) : i ≤ y.length ∧ y.length ≤ i + 1 ∧ y.take i = x := by
  subst hl hy
  refine ⟨by unfold robS; simp, ?_, robS_take m k x j⟩
  unfold robS
  cases (List.find? (fun v => winB m (robFa m.doms.length k) (m.doms.length - (x.length + 1)) (x ++ [v])) ((valsI (m.doms.getD x.length 0)).drop j)) <;> simp
/-! A robust assignment can be completed in every way. -/
theorem rob_all {m : Mod} {k : Int} {x : List Int} (h : robB m k = (x, true)) : ((x.length : Int) = k) ∧ MOk m ∧ Vals x ∧ (∀ i, i < x.length → x.getD i 0 ∈ valsI (m.doms.getD i 0)) ∧ x.length ≤ m.doms.length ∧ robP m x.length x = true := by
  unfold robB at h
  by_cases hc : validModB m = true ∧ withinB k 0 (m.doms.length : Int) = true
  · rw [if_pos hc] at h
    have hw := withinB_iff.1 hc.2
    cases e : robF m k.toNat with
    | none => rw [e] at h; simp [robO] at h
    | some y =>
      rw [e] at h
      simp only [robO, Prod.mk.injEq, and_true] at h
      subst h
      have hb := mem_tupL.1 (List.mem_of_find?_eq_some e)
      have hl : y.length = k.toNat := by rw [hb.1, List.length_take]; omega
      refine ⟨by omega, ⟨hc.1⟩, hb.vals, fun i hi => ?_, by omega, by rw [hl]; exact List.find?_some e⟩
      have h2 := hb.2 i (by rw [← hb.1]; exact hi)
      rw [List.getD_eq_getElem?_getD, List.getElem?_take, if_pos (by omega), ← List.getD_eq_getElem?_getD] at h2
      exact h2
  · rw [if_neg hc] at h; simp at h
/-- The domains in which the first values are x. -/
def robD (ds x : List Int) (j : Nat) : List Int := (x.take j).map (ishl 1) ++ ds.drop j
theorem robD_len {ds x : List Int} {j : Nat} (hj : j ≤ x.length) (hx : x.length ≤ ds.length) : (robD ds x j).length = ds.length := by unfold robD; simp; omega
theorem robD_step {ds x d : List Int} {j : Nat} (hx : x.length ≤ ds.length) (h : d = robD ds x j) (hj : j < x.length) : d.set j (ishl 1 (x.getD j 0)) = robD ds x (j + 1) := by
  subst h
  unfold robD
  rw [List.set_append_right _ _ (by simp; omega)]
  rw [show j - (List.map (ishl 1) (x.take j)).length = 0 from by simp; omega, List.drop_eq_getElem_cons (by omega : j < ds.length), List.set_cons_zero, take_succ_getD 0 hj, List.map_append]
  simp
theorem tupL_fix : ∀ (x es : List Int), Vals x → tupL (x.map (ishl 1) ++ es) = (tupL es).map (fun r => x ++ r)
  | [], es, _ => by simp
  | v :: x, es, h => by
    rw [List.map_cons, List.cons_append, tupL, valsI_one (h v (.head _)), tupL_fix x es (fun u hu => h u (.tail _ hu))]
    simp [Function.comp_def]
theorem rob_doms {m : Mod} {x : List Int} (hM : MOk m) (hx : x.length ≤ m.doms.length) (hv : Vals x) : DOk m.doms.length (robD m.doms x x.length) := by
  refine ⟨robD_len (Nat.le_refl _) hx, fun d hd => ?_⟩
  unfold robD at hd
  rw [List.take_length] at hd
  rcases List.mem_append.1 hd with h | h
  · obtain ⟨v, h1, rfl⟩ := List.mem_map.1 h
    have := shl_le (hv v h1); omega
  · exact hM.dok.d d (List.mem_of_mem_drop h)
theorem rob_law {m : Mod} {k : Int} {x d : List Int} (h : robB m k = (x, true)) (hd : d = robD m.doms x x.length) : (decide ((x.length : Int) = k) && decide (cntI ⟨d, m.cons⟩ = prodTo d d.length)) = true := by
  obtain ⟨h1, hM, hv, hb, hl, hp⟩ := rob_all h
  have hD := rob_doms hM hl hv
  rw [← hd] at hD
  have hm2 : MOk ⟨d, m.cons⟩ := val_doms hM hD
  rw [← cnt_yes hm2.v, prod_tup _ _ (Nat.le_refl _), List.take_length]
  have e : (sols ⟨d, m.cons⟩) = tupL d := by
    show (tupL d).filter (metB ⟨d, m.cons⟩) = tupL d
    rw [List.filter_eq_self]
    intro y hy
    rw [hd] at hy
    unfold robD at hy
    rw [List.take_length, tupL_fix x _ hv] at hy
    obtain ⟨r, hr, rfl⟩ := List.mem_map.1 hy
    unfold robP at hp
    rw [win_all m _ x (by omega)] at hp
    exact List.all_eq_true.1 hp r hr
  rw [e]; simp [h1]
theorem rob_g {p : List Int × Bool} (h : (((p.2 != p.2) || !(decide (p.1 = p.1))) || !p.2) = false) : p = (p.1, true) := by
  obtain ⟨a, b⟩ := p
  simp at h ⊢; exact h
theorem rob_D {m : Mod} {k : Int} {x d : List Int} {j : Nat} (h : robB m k = (x, true)) (hd : d = robD m.doms x j) (hj : j = x.length) : DOk m.doms.length d := by
  obtain ⟨h1, hM, hv, hb, hl, hp⟩ := rob_all h
  subst hj hd; exact rob_doms hM hl hv
theorem rob_law2 {m : Mod} {k : Int} {x d : List Int} {j : Nat} (h : robB m k = (x, true)) (hd : d = robD m.doms x j) (hj : j = x.length) : (decide ((x.length : Int) = k) && decide (cntI ⟨d, m.cons⟩ = prodTo d d.length)) = true := rob_law h (by rw [hd, hj])
end Go.Proofs.Ytidllhcfcmjggaa
