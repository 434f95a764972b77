/- Propagation and all solutions: the plain functions. No program in sight. Conditions: none. -/
import Derived.Test.YtojinjdobjodaaaGreatPureQ
import Derived.Test.YtojinjdobjodaaaGreatItr
namespace Go.Proofs.YtojinjdobjodaaaGreat
open Go
set_option linter.unusedSimpArgs false
set_option linter.unusedVariables false
/-! ### Masks -/
def maskP (p : Int → Bool) : Int := (((p 0).toNat + 2 * (p 1).toNat + 4 * (p 2).toNat + 8 * (p 3).toNat + 16 * (p 4).toNat + 32 * (p 5).toNat : Nat) : Int)
theorem val_cases {v : Int} (h : 0 ≤ v ∧ v ≤ 5) : v = 0 ∨ v = 1 ∨ v = 2 ∨ v = 3 ∨ v = 4 ∨ v = 5 := by omega
theorem maskP_in (p : Int → Bool) : 0 ≤ maskP p ∧ maskP p ≤ 63 := by
  unfold maskP
  have h : ∀ b : Bool, b.toNat ≤ 1 := fun b => by cases b <;> simp
  have := h (p 0); have := h (p 1); have := h (p 2); have := h (p 3); have := h (p 4); have := h (p 5)
  omega
theorem maskP_has {p : Int → Bool} {v : Int} (h : 0 ≤ v ∧ v ≤ 5) : hasB (maskP p) v = p v := by
  have key : ∀ b0 b1 b2 b3 b4 b5 : Bool, let n : Int := ((b0.toNat + 2 * b1.toNat + 4 * b2.toNat + 8 * b3.toNat + 16 * b4.toNat + 32 * b5.toNat : Nat) : Int); hasB n 0 = b0 ∧ hasB n 1 = b1 ∧ hasB n 2 = b2 ∧ hasB n 3 = b3 ∧ hasB n 4 = b4 ∧ hasB n 5 = b5 := by decide +kernel
  obtain ⟨h0, h1, h2, h3, h4, h5⟩ := key (p 0) (p 1) (p 2) (p 3) (p 4) (p 5)
  unfold maskP
  rcases val_cases h with rfl | rfl | rfl | rfl | rfl | rfl <;> assumption
theorem maskP_congr {p q : Int → Bool} (h : ∀ v, 0 ≤ v ∧ v ≤ 5 → p v = q v) : maskP p = maskP q := by
  unfold maskP; rw [h 0 (by omega), h 1 (by omega), h 2 (by omega), h 3 (by omega), h 4 (by omega), h 5 (by omega)]
theorem dom_mask {d : Int} (h : 0 ≤ d ∧ d ≤ 63) : maskP (hasB d) = d :=
  fin_nat (n := 64) (p := fun d => maskP (hasB d) = d) (by decide +kernel) h.1 (by omega)
theorem dom_ext {d e : Int} (hd : 0 ≤ d ∧ d ≤ 63) (he : 0 ≤ e ∧ e ≤ 63) (h : ∀ v, 0 ≤ v ∧ v ≤ 5 → hasB d v = hasB e v) : d = e := by
  rw [← dom_mask hd, ← dom_mask he]; exact maskP_congr h
theorem ior_has {d : Int} (hd : 0 ≤ d ∧ d ≤ 63) {v : Int} (hv : 0 ≤ v ∧ v ≤ 5) : ior d (ishl 1 v) = maskP (fun u => hasB d u || decide (u = v)) := by
  have key : ∀ i, i < 64 → ∀ j, j < 6 → ior ((i : Nat) : Int) (ishl 1 ((j : Nat) : Int)) = maskP (fun u => hasB ((i : Nat) : Int) u || decide (u = ((j : Nat) : Int))) := by decide +kernel
  exact fin_nat (n := 64) (p := fun d => ior d (ishl 1 v) = maskP (fun u => hasB d u || decide (u = v))) (fun i hi => fin_nat (n := 6) (p := fun v => ior ((i : Nat) : Int) (ishl 1 v) = maskP (fun u => hasB ((i : Nat) : Int) u || decide (u = v))) (fun j hj => key i hi j hj) hv.1 (by omega)) hd.1 (by omega)
theorem add_has {d : Int} (hd : 0 ≤ d ∧ d ≤ 63) {v : Int} (hv : 0 ≤ v ∧ v ≤ 5) (h : hasB d v = false) : d + ishl 1 v = maskP (fun u => hasB d u || decide (u = v)) := by
  have key : ∀ i, i < 64 → ∀ j, j < 6 → hasB ((i : Nat) : Int) ((j : Nat) : Int) = false → ((i : Nat) : Int) + (ishl 1 ((j : Nat) : Int)) = maskP (fun u => hasB ((i : Nat) : Int) u || decide (u = ((j : Nat) : Int))) := by decide +kernel
  exact fin_nat (n := 64) (p := fun d => hasB d v = false → d + (ishl 1 v) = maskP (fun u => hasB d u || decide (u = v))) (fun i hi => fin_nat (n := 6) (p := fun v => hasB ((i : Nat) : Int) v = false → ((i : Nat) : Int) + (ishl 1 v) = maskP (fun u => hasB ((i : Nat) : Int) u || decide (u = v))) (fun j hj => key i hi j hj) hv.1 (by omega)) hd.1 (by omega) h
theorem sub_le {d e : Int} (hd : 0 ≤ d ∧ d ≤ 63) (he : 0 ≤ e ∧ e ≤ 63) (h : ∀ v, 0 ≤ v ∧ v ≤ 5 → hasB e v = true → hasB d v = true) : e ≤ d := by
  rw [← dom_mask hd, ← dom_mask he]
  unfold maskP
  have k : ∀ v, 0 ≤ v ∧ v ≤ 5 → (hasB e v).toNat ≤ (hasB d v).toNat := fun v hv => by
    have := h v hv
    cases h1 : hasB e v with
    | false => simp
    | true => rw [this h1]; simp
  have := k 0 (by omega); have := k 1 (by omega); have := k 2 (by omega); have := k 3 (by omega); have := k 4 (by omega); have := k 5 (by omega)
  omega
theorem mem_valsI {d v : Int} : v ∈ valsI d ↔ (0 ≤ v ∧ v ≤ 5) ∧ hasB d v = true := by
  simp only [valsI, membersTo, natsI, List.mem_map, List.mem_filter, List.mem_range]
  constructor
  · rintro ⟨i, ⟨h1, h2⟩, rfl⟩; exact ⟨by omega, h2⟩
  · rintro ⟨h1, h2⟩
    obtain ⟨i, rfl⟩ := Int.eq_ofNat_of_zero_le h1.1
    exact ⟨i, ⟨by omega, h2⟩, rfl⟩
theorem valsI_sub {d e : Int} (h : ∀ v, 0 ≤ v ∧ v ≤ 5 → hasB e v = true → hasB d v = true) : valsI e = (valsI d).filter (fun v => hasB e v) := by
  simp only [valsI, membersTo, natsI, List.filter_map, List.filter_filter]
  congr 1
  refine List.filter_congr fun i hi => ?_
  have := h (i : Int) (by have := List.mem_range.1 hi; omega)
  simp only [Function.comp]
  cases h1 : hasB e (i : Int) with
  | false => simp
  | true => rw [this h1]; rfl
theorem valsI_0 : valsI 0 = [] := by decide +kernel
/-! ### Boxes -/
def DomV (ds : List Int) : Prop := ∀ d ∈ ds, (0 : Int) ≤ d ∧ d ≤ 63
theorem DomV.at {ds : List Int} (h : DomV ds) {i : Nat} (hi : i < ds.length) : (0 : Int) ≤ ds.getD i 0 ∧ ds.getD i 0 ≤ 63 := h _ (getD_mem hi)
def Box (ds x : List Int) : Prop := x.length = ds.length ∧ ∀ i, i < ds.length → x.getD i 0 ∈ valsI (ds.getD i 0)
theorem box_cons {d : Int} {ds x : List Int} : Box (d :: ds) x ↔ ∃ v y, x = v :: y ∧ v ∈ valsI d ∧ Box ds y := by
  constructor
  · rintro ⟨hl, h⟩
    cases x with
    | nil => simp at hl
    | cons v y =>
      refine ⟨v, y, rfl, by simpa using h 0 (by simp), by simpa using hl, fun i hi => ?_⟩
      simpa using h (i + 1) (by simpa using hi)
  · rintro ⟨v, y, rfl, hv, hl, h⟩
    refine ⟨by simpa using hl, fun i hi => ?_⟩
    cases i with
    | zero => simpa using hv
    | succ i => simpa using h i (by simpa using hi)
theorem mem_tupL {ds : List Int} : ∀ {x : List Int}, x ∈ tupL ds ↔ Box ds x := by
  induction ds with
  | nil => intro x; simp [tupL, Box]
  | cons d ds ih =>
    intro x
    rw [box_cons]
    simp only [tupL, List.mem_flatMap, List.mem_map]
    constructor
    · rintro ⟨v, hv, y, hy, rfl⟩; exact ⟨v, y, rfl, hv, ih.1 hy⟩
    · rintro ⟨v, y, rfl, hv, hy⟩; exact ⟨v, hv, y, ih.2 hy, rfl⟩
theorem Box.vals {ds x : List Int} (h : Box ds x) : Vals x := fun v hv => by
  obtain ⟨i, hi, rfl⟩ := List.getElem_of_mem hv
  have := h.2 i (by rw [← h.1]; exact hi)
  rw [show x[i] = x.getD i 0 from by simp [List.getD, hi]]
  exact valsI_mem this
def boxB : List Int → List Int → Bool
  | [], [] => true
  | d :: ds, v :: x => hasB d v && boxB ds x
  | _, _ => false
theorem boxB_iff {ds : List Int} : ∀ {x : List Int}, Vals x → (boxB ds x = true ↔ Box ds x) := by
  induction ds with
  | nil => intro x _; cases x <;> simp [boxB, Box]
  | cons d ds ih =>
    intro x hx
    rw [box_cons]
    cases x with
    | nil => simp [boxB]
    | cons v y =>
      simp only [boxB, Bool.and_eq_true, List.cons.injEq]
      have hy : Vals y := fun u hu => hx u (.tail _ hu)
      constructor
      · rintro ⟨h1, h2⟩; exact ⟨v, y, ⟨rfl, rfl⟩, mem_valsI.2 ⟨hx v (.head _), h1⟩, (ih hy).1 h2⟩
      · rintro ⟨v', y', ⟨rfl, rfl⟩, h1, h2⟩; exact ⟨(mem_valsI.1 h1).2, (ih hy).2 h2⟩
/-- es lies in ds. -/
def SubD (es ds : List Int) : Prop := es.length = ds.length ∧ ∀ i, i < ds.length → ∀ v, 0 ≤ v ∧ v ≤ 5 → hasB (es.getD i 0) v = true → hasB (ds.getD i 0) v = true
theorem SubD.refl (ds : List Int) : SubD ds ds := ⟨rfl, fun _ _ _ _ h => h⟩
theorem SubD.trans {a b c : List Int} (h : SubD a b) (k : SubD b c) : SubD a c := ⟨h.1.trans k.1, fun i hi v hv hh => k.2 i hi v hv (h.2 i (by rw [k.1]; exact hi) v hv hh)⟩
theorem flat_filter {A B : Type} {f g : A → List B} {p : B → Bool} {q : A → Bool} : ∀ {xs : List A}, (∀ x ∈ xs, (f x).filter p = if q x = true then g x else []) → (xs.flatMap f).filter p = (xs.filter q).flatMap g
  | [], _ => rfl
  | x :: xs, h => by
    rw [List.flatMap_cons, List.filter_append, flat_filter (fun y hy => h y (.tail _ hy)), h x (.head _)]
    cases hq : q x with
    | true => rw [List.filter_cons, if_pos hq, List.flatMap_cons]; rfl
    | false => rw [List.filter_cons, hq]; rfl
theorem tupL_sub {ds : List Int} : ∀ {es : List Int}, SubD es ds → tupL es = (tupL ds).filter (boxB es) := by
  induction ds with
  | nil => intro es h; cases es with | nil => rfl | cons e es => simp [SubD] at h
  | cons d ds ih =>
    intro es h
    cases es with
    | nil => simp [SubD] at h
    | cons e es =>
      have h1 : SubD es ds := ⟨by simpa using h.1, fun i hi v hv hh => by simpa using h.2 (i + 1) (by simpa using hi) v hv (by simpa using hh)⟩
      have h0 := valsI_sub (d := d) (e := e) (fun v hv hh => by simpa using h.2 0 (by simp) v hv (by simpa using hh))
      simp only [tupL]
      rw [flat_filter (q := fun v => hasB e v) (g := fun v => (tupL es).map (fun r => v :: r)) (fun v hv => ?_), ← h0]
      rw [List.filter_map]
      have hc : (boxB (e :: es) ∘ fun r => v :: r) = fun r => hasB e v && boxB es r := rfl
      rw [hc]
      cases hh : hasB e v with
      | true => simp only [Bool.true_and, if_true]; rw [ih h1]
      | false => simp
/-! ### One constraint -/
def supp (c : Con) (T : List (List Int)) (j : Nat) : Int := maskP (fun v => T.any (fun t => satB c t && decide (v = t.getD j 0)))
def suppV (c : Con) (T : List (List Int)) : List Int := (List.range c.vars.length).map (supp c T)
theorem suppV_len (c : Con) (T : List (List Int)) : (suppV c T).length = c.vars.length := by simp [suppV]
theorem suppV_at {c : Con} {T : List (List Int)} {j : Nat} (h : j < c.vars.length) : (suppV c T).getD j 0 = supp c T j := by simp [suppV, List.getD, h]
theorem supp_has {c : Con} {T : List (List Int)} {j : Nat} {v : Int} (h : 0 ≤ v ∧ v ≤ 5) : hasB (supp c T j) v = true ↔ ∃ t ∈ T, satB c t = true ∧ v = t.getD j 0 := by
  unfold supp
  rw [maskP_has h, List.any_eq_true]
  simp only [Bool.and_eq_true, decide_eq_true_eq]
theorem supp_no {c : Con} {T : List (List Int)} {t : List Int} (h : satB c t = false) (j : Nat) : supp c (T ++ [t]) j = supp c T j := by
  unfold supp; refine maskP_congr fun v _ => ?_
  rw [List.any_append]; simp [h]
theorem suppV_no {c : Con} {T : List (List Int)} {t : List Int} (h : satB c t = false) : suppV c (T ++ [t]) = suppV c T := by
  unfold suppV; exact List.map_congr_left fun j _ => supp_no h j
theorem supp_yes {c : Con} {T : List (List Int)} {t : List Int} (h : satB c t = true) {j : Nat} (hv : 0 ≤ t.getD j 0 ∧ t.getD j 0 ≤ 5) : supp c (T ++ [t]) j = maskP (fun u => hasB (supp c T j) u || decide (u = t.getD j 0)) := by
  refine maskP_congr fun v hv => ?_
  unfold supp
  rw [maskP_has hv, List.any_append]; simp [h]
theorem supp_or {c : Con} {T : List (List Int)} {t : List Int} (h : satB c t = true) {j : Nat} (hv : 0 ≤ t.getD j 0 ∧ t.getD j 0 ≤ 5) : ior (supp c T j) (ishl 1 (t.getD j 0)) = supp c (T ++ [t]) j := by
  rw [supp_yes h hv]; exact ior_has (maskP_in _) hv
theorem supp_addF {c : Con} {T : List (List Int)} {t : List Int} (h : satB c t = true) {j : Nat} (hv : 0 ≤ t.getD j 0 ∧ t.getD j 0 ≤ 5) (hh : hasB (supp c T j) (t.getD j 0) = false) : supp c T j + ishl 1 (t.getD j 0) = supp c (T ++ [t]) j := by
  rw [supp_yes h hv]; exact add_has (maskP_in _) hv hh
theorem supp_addT {c : Con} {T : List (List Int)} {t : List Int} (h : satB c t = true) {j : Nat} (hv : 0 ≤ t.getD j 0 ∧ t.getD j 0 ≤ 5) (hh : hasB (supp c T j) (t.getD j 0) = true) : supp c T j = supp c (T ++ [t]) j := by
  rw [supp_yes h hv]
  refine dom_ext (maskP_in _) (maskP_in _) fun v hv' => ?_
  rw [maskP_has (p := fun u => hasB (supp c T j) u || decide (u = t.getD j 0)) hv']
  by_cases e : v = t.getD j 0
  · rw [e, hh]; rfl
  · rw [decide_eq_false e, Bool.or_false]
/-- Between two tuples: the first j positions have the new one. -/
def suppM (c : Con) (T : List (List Int)) (t : List Int) (j : Nat) : List Int := (List.range c.vars.length).map (fun i => if i < j then supp c (T ++ [t]) i else supp c T i)
theorem suppM_0 (c : Con) (T : List (List Int)) (t : List Int) : suppM c T t 0 = suppV c T := by simp [suppM, suppV]
theorem suppM_len (c : Con) (T : List (List Int)) (t : List Int) (j : Nat) : (suppM c T t j).length = c.vars.length := by simp [suppM]
theorem suppM_all (c : Con) (T : List (List Int)) (t : List Int) {j : Nat} (h : c.vars.length ≤ j) : suppM c T t j = suppV c (T ++ [t]) := by
  unfold suppM suppV
  refine List.map_congr_left fun i hi => ?_
  rw [if_pos (by have := List.mem_range.1 hi; omega)]
theorem suppM_at {c : Con} {T : List (List Int)} {t : List Int} {j : Nat} (h : j < c.vars.length) : (suppM c T t j).getD j 0 = supp c T j := by simp [suppM, List.getD, h]
theorem suppM_set {c : Con} {T : List (List Int)} {t : List Int} {j : Nat} (h : j < c.vars.length) {y : Int} (e : y = supp c (T ++ [t]) j) : (suppM c T t j).set j y = suppM c T t (j + 1) := by
  subst e
  refine List.ext_getElem (by simp [suppM]) fun i h1 h2 => ?_
  simp only [suppM, List.getElem_set, List.getElem_map, List.getElem_range]
  by_cases e : j = i
  · subst e; simp
  · rw [if_neg e]
    by_cases h3 : i < j
    · rw [if_pos h3, if_pos (by omega)]
    · rw [if_neg h3, if_neg (by omega)]
theorem suppM_same {c : Con} {T : List (List Int)} {t : List Int} {j : Nat} (h : j < c.vars.length) (e : supp c T j = supp c (T ++ [t]) j) : suppM c T t j = suppM c T t (j + 1) := by
  rw [← suppM_set h rfl, ← e]
  refine List.ext_getElem (by simp) fun i h1 h2 => ?_
  rw [List.getElem_set]
  split
  · rename_i e; subst e; simp [suppM]
  · rfl
def filtTo (c : Con) (ds L : List Int) (k : Nat) : List Int := (List.range k).foldl (fun o j => o.set (c.vars.getD j 0).toNat (L.getD j 0)) ds
theorem filtTo_succ (c : Con) (ds L : List Int) (k : Nat) : filtTo c ds L (k + 1) = (filtTo c ds L k).set (c.vars.getD k 0).toNat (L.getD k 0) := by
  simp [filtTo, List.range_succ]
theorem filtTo_len (c : Con) (ds L : List Int) : ∀ k, (filtTo c ds L k).length = ds.length
  | 0 => rfl
  | k + 1 => by rw [filtTo_succ, List.length_set, filtTo_len c ds L k]
def tups (c : Con) (ds : List Int) : List (List Int) := tupL (wordL c.vars ds)
def filtL (c : Con) (ds : List Int) : List Int := filtTo c ds (suppV c (tups c ds)) c.vars.length
theorem filtL_len (c : Con) (ds : List Int) : (filtL c ds).length = ds.length := filtTo_len _ _ _ _
theorem filtTo_no {c : Con} {ds L : List Int} {i : Nat} : ∀ k, (∀ j, j < k → (c.vars.getD j 0).toNat ≠ i) → (filtTo c ds L k).getD i 0 = ds.getD i 0
  | 0, _ => rfl
  | k + 1, h => by
    rw [filtTo_succ]
    have h0 := h k (by omega)
    rw [List.getD_eq_getElem?_getD, List.getElem?_set_ne h0, ← List.getD_eq_getElem?_getD]
    exact filtTo_no k (fun j hj => h j (by omega))
theorem filtTo_at {c : Con} {ds L : List Int} {i j : Nat} (hi : i < ds.length) (e : (c.vars.getD j 0).toNat = i) : ∀ k, j < k → (∀ j', j' < k → (c.vars.getD j' 0).toNat = i → j' = j) → (filtTo c ds L k).getD i 0 = L.getD j 0
  | 0, h, _ => absurd h (Nat.not_lt_zero _)
  | k + 1, h, hu => by
    rw [filtTo_succ]
    by_cases hk : j = k
    · subst hk
      rw [e, List.getD_eq_getElem?_getD, List.getElem?_set_self (by rw [filtTo_len]; exact hi)]; rfl
    · have h0 : (c.vars.getD k 0).toNat ≠ i := fun e' => hk (hu k (by omega) e').symm
      rw [List.getD_eq_getElem?_getD, List.getElem?_set_ne h0, ← List.getD_eq_getElem?_getD]
      exact filtTo_at hi e k (by omega) (fun j' hj' => hu j' (by omega))
theorem ConOk.inj {c : Con} {n : Nat} (h : ConOk c n) {i j : Nat} (hi : i < c.vars.length) (hj : j < c.vars.length) (e : (c.vars.getD i 0).toNat = (c.vars.getD j 0).toNat) : i = j := by
  have hv := h.v
  simp only [validConB, Bool.and_eq_true, distinctB, decide_eq_true_eq] at hv
  have hn := hv.1.2
  have h1 := h.at hi; have h2 := h.at hj
  have e2 : c.vars.getD i 0 = c.vars.getD j 0 := by omega
  have e3 : c.vars[i] = c.vars[j] := by simpa [List.getD, hi, hj] using e2
  have hp := List.pairwise_iff_getElem.1 hn
  rcases Nat.lt_trichotomy i j with h3 | h3 | h3
  · exact absurd e3 (hp i j hi hj h3)
  · exact h3
  · exact absurd e3.symm (hp j i hj hi h3)
section filt
variable {c : Con} {n : Nat} {ds : List Int}
/-- What a filtered domain is. -/
theorem filt_cases (hc : ConOk c n) (hl : ds.length = n) {i : Nat} (hi : i < n) : (∃ j, j < c.vars.length ∧ (c.vars.getD j 0).toNat = i ∧ (filtL c ds).getD i 0 = supp c (tups c ds) j) ∨ ((∀ j, j < c.vars.length → (c.vars.getD j 0).toNat ≠ i) ∧ (filtL c ds).getD i 0 = ds.getD i 0) := by
  by_cases h : ∃ j, j < c.vars.length ∧ (c.vars.getD j 0).toNat = i
  · obtain ⟨j, hj, e⟩ := h
    refine .inl ⟨j, hj, e, ?_⟩
    rw [← suppV_at hj]
    exact filtTo_at (by omega) e _ hj (fun j' hj' e' => hc.inj hj' hj (by omega))
  · have h' : ∀ j, j < c.vars.length → (c.vars.getD j 0).toNat ≠ i := fun j hj e => h ⟨j, hj, e⟩
    exact .inr ⟨h', filtTo_no _ h'⟩
theorem word_at {vs ds : List Int} {j : Nat} (h : j < vs.length) : (wordL vs ds).getD j 0 = ds.getD (vs.getD j 0).toNat 0 := by simp [wordL, List.getD, h]
theorem filt_sub (hc : ConOk c n) (hl : ds.length = n) : SubD (filtL c ds) ds := ⟨filtL_len c ds, fun i hi v hv h => by
  rcases filt_cases hc hl (i := i) (by omega) with ⟨j, hj, e, e2⟩ | ⟨_, e2⟩
  · rw [e2] at h
    obtain ⟨t, ht, _, rfl⟩ := (supp_has hv).1 h
    have hb := mem_tupL.1 ht
    have := hb.2 j (by simpa [wordL] using hj)
    rw [word_at hj, e] at this
    exact (mem_valsI.1 this).2
  · rw [e2] at h; exact h⟩
theorem filt_dom (hc : ConOk c n) (hl : ds.length = n) (hd : DomV ds) : DomV (filtL c ds) := fun d hm => by
  obtain ⟨i, hi, rfl⟩ := List.getElem_of_mem hm
  rw [show (filtL c ds)[i] = (filtL c ds).getD i 0 from by simp [List.getD, hi]]
  rw [filtL_len] at hi
  rcases filt_cases hc hl (i := i) (by omega) with ⟨j, hj, e, e2⟩ | ⟨_, e2⟩
  · rw [e2]; exact maskP_in _
  · rw [e2]; exact hd.at hi
theorem box_word {x : List Int} (hc : ConOk c n) (hl : ds.length = n) (h : Box ds x) : Box (wordL c.vars ds) (wordL c.vars x) := ⟨by simp [wordL], fun j hj => by
  have hj : j < c.vars.length := by simpa [wordL] using hj
  rw [word_at hj, word_at hj]
  exact h.2 _ (by have := hc.at hj; omega)⟩
theorem filt_sound {x : List Int} (hc : ConOk c n) (hl : ds.length = n) (h : Box ds x) (hs : conAt x c = true) : Box (filtL c ds) x := ⟨by rw [filtL_len]; exact h.1, fun i hi => by
  rw [filtL_len] at hi
  rcases filt_cases hc hl (i := i) (by omega) with ⟨j, hj, e, e2⟩ | ⟨_, e2⟩
  · rw [e2, mem_valsI]
    have hv := valsI_mem (h.2 i hi)
    refine ⟨hv, (supp_has hv).2 ⟨wordL c.vars x, mem_tupL.2 (box_word hc hl h), hs, ?_⟩⟩
    rw [word_at hj, e]
  · rw [e2]; exact h.2 i hi⟩
end filt
/-! ### All constraints, until nothing changes -/
def sumN (ds : List Int) : Nat := (ds.map Int.toNat).sum
theorem sumN_le : ∀ {es ds : List Int}, es.length = ds.length → (∀ i, i < ds.length → es.getD i 0 ≤ ds.getD i 0) → sumN es ≤ sumN ds
  | [], [], _, _ => Nat.le_refl _
  | [], _ :: _, h, _ => by simp at h
  | _ :: _, [], h, _ => by simp at h
  | e :: es, d :: ds, hl, h => by
    have h0 := h 0 (by simp)
    have ih := sumN_le (es := es) (ds := ds) (by simpa using hl) (fun i hi => by simpa using h (i + 1) (by simpa using hi))
    simp only [sumN, List.map_cons, List.sum_cons] at *
    simp at h0
    omega
theorem sumN_lt : ∀ {es ds : List Int}, es.length = ds.length → (∀ d ∈ es, (0 : Int) ≤ d) → (∀ i, i < ds.length → es.getD i 0 ≤ ds.getD i 0) → es ≠ ds → sumN es < sumN ds
  | [], [], _, _, _, h => absurd rfl h
  | [], _ :: _, h, _, _, _ => by simp at h
  | _ :: _, [], h, _, _, _ => by simp at h
  | e :: es, d :: ds, hl, hp, h, hne => by
    have h0 := h 0 (by simp)
    have hl' : es.length = ds.length := by simpa using hl
    have h' : ∀ i, i < ds.length → es.getD i 0 ≤ ds.getD i 0 := fun i hi => by simpa using h (i + 1) (by simpa using hi)
    have ih := sumN_le hl' h'
    have he := hp e (.head _)
    simp only [sumN, List.map_cons, List.sum_cons] at *
    simp at h0
    by_cases e1 : e = d
    · have := sumN_lt hl' (fun d hd => hp d (.tail _ hd)) h' (fun e2 => hne (by rw [e1, e2]))
      simp only [sumN] at this
      omega
    · omega
theorem SubD.sum {es ds : List Int} (h : SubD es ds) (he : DomV es) (hd : DomV ds) : sumN es ≤ sumN ds :=
  sumN_le h.1 fun i hi => sub_le (hd.at hi) (he.at (by rw [h.1]; exact hi)) (h.2 i hi)
theorem SubD.lt {es ds : List Int} (h : SubD es ds) (he : DomV es) (hd : DomV ds) (hne : es ≠ ds) : sumN es < sumN ds :=
  sumN_lt h.1 (fun d hm => (he d hm).1) (fun i hi => sub_le (hd.at hi) (he.at (by rw [h.1]; exact hi)) (h.2 i hi)) hne
def filtC (cs : List Con) (ds : List Int) : List Int := cs.foldl (fun d c => filtL c d) ds
def filtA (m : Mod) (ds : List Int) : List Int := filtC m.cons ds
def consB (cs : List Con) (ds : List Int) : Bool := cs.all (fun c => decide (filtL c ds = ds))
def zerosL (n : Nat) : List Int := List.replicate n 0
def prop (m : Mod) (ds : List Int) : List Int :=
  if ds.contains 0 = true then zerosL ds.length else if filtA m ds = ds then ds else if h : sumN (filtA m ds) < sumN ds then prop m (filtA m ds) else ds
termination_by sumN ds
/-- Domains of a model's variables. -/
structure DOk (n : Nat) (ds : List Int) : Prop where
  l : ds.length = n
  d : DomV ds
theorem filtC_ok {cs : List Con} {n : Nat} (hc : ∀ c ∈ cs, ConOk c n) : ∀ {ds : List Int}, DOk n ds → DOk n (filtC cs ds) ∧ SubD (filtC cs ds) ds := by
  induction cs with
  | nil => intro ds h; exact ⟨h, SubD.refl _⟩
  | cons c cs ih =>
    intro ds h
    have h0 := hc c (.head _)
    have h1 : DOk n (filtL c ds) := ⟨(filtL_len c ds).trans h.l, filt_dom h0 h.l h.d⟩
    obtain ⟨h2, h3⟩ := ih (fun c hm => hc c (.tail _ hm)) h1
    exact ⟨h2, h3.trans (filt_sub h0 h.l)⟩
theorem filtC_fix {cs : List Con} {n : Nat} (hc : ∀ c ∈ cs, ConOk c n) : ∀ {ds : List Int}, DOk n ds → (filtC cs ds = ds ↔ consB cs ds = true) := by
  induction cs with
  | nil => intro ds h; simp [filtC, consB]
  | cons c cs ih =>
    intro ds h
    have h0 := hc c (.head _)
    have hcs : ∀ c ∈ cs, ConOk c n := fun c hm => hc c (.tail _ hm)
    have h1 : DOk n (filtL c ds) := ⟨(filtL_len c ds).trans h.l, filt_dom h0 h.l h.d⟩
    have hs := filt_sub h0 h.l
    have h2 := filtC_ok hcs h1
    simp only [consB, List.all_cons, Bool.and_eq_true, decide_eq_true_eq]
    constructor
    · intro e
      have e1 : filtC cs (filtL c ds) = ds := e
      have e2 : filtL c ds = ds := by
        by_cases hne : filtL c ds = ds
        · exact hne
        · have a := hs.lt h1.d h.d hne
          have b := h2.2.sum h2.1.d h1.d
          rw [e1] at b; omega
      rw [e2] at e1
      exact ⟨e2, (ih hcs h).1 e1⟩
    · rintro ⟨e1, e2⟩
      show filtC cs (filtL c ds) = ds
      rw [e1]; exact (ih hcs h).2 e2
section props
variable {m : Mod} {ds : List Int}
theorem MOk.cons (hM : MOk m) : ∀ c ∈ m.cons, ConOk c m.doms.length := fun c hc => ⟨hM.cm hc⟩
theorem MOk.dok (hM : MOk m) : DOk m.doms.length m.doms := ⟨rfl, fun d hd => by
  obtain ⟨i, hi, rfl⟩ := List.getElem_of_mem hd
  rw [show m.doms[i] = m.doms.getD i 0 from by simp [List.getD, hi]]
  exact hM.d hi⟩
theorem filtA_ok (hM : MOk m) (h : DOk m.doms.length ds) : DOk m.doms.length (filtA m ds) ∧ SubD (filtA m ds) ds := filtC_ok hM.cons h
theorem filtA_lt (hM : MOk m) (h : DOk m.doms.length ds) (hne : filtA m ds ≠ ds) : sumN (filtA m ds) < sumN ds :=
  (filtA_ok hM h).2.lt (filtA_ok hM h).1.d h.d hne
theorem filtA_fix (hM : MOk m) (h : DOk m.doms.length ds) : filtA m ds = ds ↔ consB m.cons ds = true := filtC_fix hM.cons h
theorem prop_0 (h : ds.contains 0 = true) : prop m ds = zerosL ds.length := by rw [prop, if_pos h]
theorem prop_fix (h : ds.contains 0 = false) (e : filtA m ds = ds) : prop m ds = ds := by rw [prop, if_neg (by rw [h]; simp), if_pos e]
theorem prop_step (hM : MOk m) (hd : DOk m.doms.length ds) (h : ds.contains 0 = false) (e : filtA m ds ≠ ds) : prop m (filtA m ds) = prop m ds := by
  rw [prop.eq_1 m ds, if_neg (by rw [h]; simp), if_neg e, dif_pos (filtA_lt hM hd e)]
theorem zerosL_ok (n : Nat) : DOk n (zerosL n) := ⟨by simp [zerosL], fun d hd => by
  simp only [zerosL, List.mem_replicate] at hd
  omega⟩
theorem zerosL_sub (ds : List Int) : SubD (zerosL ds.length) ds := ⟨by simp [zerosL], fun i hi v hv h => by
  have : (zerosL ds.length).getD i 0 = 0 := by simp [zerosL, List.getD, hi]
  rw [this] at h
  have h2 : v ∈ valsI 0 := mem_valsI.2 ⟨hv, h⟩
  rw [valsI_0] at h2; cases h2⟩
theorem tupL_0 {ds : List Int} (h : ds.contains 0 = true) : tupL ds = [] := by
  cases e : tupL ds with
  | nil => rfl
  | cons x xs =>
    exfalso
    have hb := mem_tupL.1 (show x ∈ tupL ds by rw [e]; exact .head _)
    obtain ⟨i, hi, h0⟩ := List.getElem_of_mem (List.contains_iff_mem.1 h)
    have := hb.2 i hi
    rw [show ds.getD i 0 = ds[i] from by simp [List.getD, hi], h0, valsI_0] at this
    cases this
def solT (m : Mod) (ds : List Int) : List (List Int) := (tupL ds).filter (metB m)
theorem solT_filt (hM : MOk m) {c : Con} (hc : c ∈ m.cons) (hd : DOk m.doms.length ds) : solT m (filtL c ds) = solT m ds := by
  unfold solT
  rw [tupL_sub (filt_sub (hM.cons c hc) hd.l), List.filter_filter]
  refine List.filter_congr fun x hx => ?_
  have hb := mem_tupL.1 hx
  cases h : metB m x with
  | false => simp
  | true =>
    have := (boxB_iff hb.vals).2 (filt_sound (hM.cons c hc) hd.l hb (List.all_eq_true.1 h c hc))
    rw [this]; rfl
theorem solT_filtC (hM : MOk m) : ∀ {cs : List Con}, (∀ c ∈ cs, c ∈ m.cons) → ∀ {ds : List Int}, DOk m.doms.length ds → solT m (filtC cs ds) = solT m ds
  | [], _, _, _ => rfl
  | c :: cs, h, ds, hd => by
    have h0 := hM.cons c (h c (.head _))
    have h1 : DOk m.doms.length (filtL c ds) := ⟨(filtL_len c ds).trans hd.l, filt_dom h0 hd.l hd.d⟩
    exact (solT_filtC hM (cs := cs) (fun c hm => h c (.tail _ hm)) h1).trans (solT_filt hM (h c (.head _)) hd)
/-- What propagation gives: valid domains, within the old ones, with the same solutions; either no domain is empty and no constraint changes them, or all are. -/
structure PropOk (m : Mod) (ds es : List Int) : Prop where
  ok : DOk m.doms.length es
  sub : SubD es ds
  sol : solT m es = solT m ds
  fix : es.contains 0 = true ∨ consB m.cons es = true
theorem prop_ok (hM : MOk m) : ∀ (k : Nat) {ds : List Int}, sumN ds = k → DOk m.doms.length ds → PropOk m ds (prop m ds) := by
  intro k
  induction k using Nat.strongRecOn with
  | _ k ih =>
    intro ds hk hd
    cases h0 : ds.contains 0 with
    | true =>
      rw [prop_0 h0, hd.l]
      have hz := zerosL_ok m.doms.length
      have hn := hM.n
      have hc : (zerosL m.doms.length).contains 0 = true := by
        rw [List.contains_iff_mem]; simp only [zerosL, List.mem_replicate]; exact ⟨by omega, trivial⟩
      exact ⟨hz, hd.l ▸ zerosL_sub ds, by unfold solT; rw [tupL_0 h0, tupL_0 hc], .inl hc⟩
    | false =>
      by_cases e : filtA m ds = ds
      · rw [prop_fix h0 e]; exact ⟨hd, SubD.refl _, rfl, .inr ((filtA_fix hM hd).1 e)⟩
      · rw [← prop_step hM hd h0 e]
        have hf := filtA_ok hM hd
        have := ih _ (hk ▸ filtA_lt hM hd e) rfl hf.1
        exact ⟨this.ok, this.sub.trans hf.2, this.sol.trans (solT_filtC hM (fun _ h => h) hd), this.fix⟩
theorem propOk (hM : MOk m) {ds : List Int} (hd : DOk m.doms.length ds) : PropOk m ds (prop m ds) := prop_ok hM _ rfl hd
/-! ### All solutions -/
/-! Branching. -/
end props
/-! ### What the walks ask -/
theorem supp_nil (c : Con) (j : Nat) : supp c [] j = 0 := by simp [supp, maskP]
theorem suppV_0 (c : Con) : suppV c [] = List.replicate c.vars.length 0 := by
  refine List.ext_getElem (by simp [suppV]) fun i h1 h2 => ?_
  simp [suppV, supp_nil]
theorem word_dom {c : Con} {ds : List Int} (hC : ConOk c ds.length) (hd : DomV ds) : ∀ d ∈ wordL c.vars ds, (0 : Int) ≤ d ∧ d ≤ 63 := fun d hm => by
  simp only [wordL, List.mem_map] at hm
  obtain ⟨v, hv, rfl⟩ := hm
  have := hC.vars v hv
  exact hd.at (by omega)
theorem tup_sat {c : Con} {n : Nat} {ds t : List Int} (hC : ConOk c n) (hl : ds.length = n) (h : t ∈ tupL (wordL c.vars ds)) : SatOk c t := by
  have hb := mem_tupL.1 h
  have ho := hC.one
  have hf := hC.v
  simp only [validConB, Bool.and_eq_true] at hf
  have h1 := hb.1
  simp [wordL] at h1
  exact ⟨hf.2, h1.symm, by omega, by omega, hb.vals⟩
theorem supp_stepT {c : Con} {T : List (List Int)} {t left : List Int} {k : Nat} (h : left = suppM c T t k) (hS : SatOk c t) (hk : t.length ≤ k) : left = suppV c (T ++ [t]) := by
  rw [h]; exact suppM_all c T t (by rw [hS.len]; exact hk)
theorem suppM_stepO {c : Con} {T : List (List Int)} {t : List Int} {k : Nat} (hs : satB c t = true) (hS : SatOk c t) (hk : k < t.length) : (suppM c T t k).set k (ior ((suppM c T t k).getD k 0) (ishl 1 (t.getD k 0))) = suppM c T t (k + 1) := by
  have h1 := hS.len
  rw [suppM_at (by omega), supp_or hs (hS.val.at hk)]
  exact suppM_set (by omega) rfl
theorem filtC_step {cs : List Con} {k : Nat} {ds : List Int} (h : k < cs.length) : filtC (cs.take (k + 1)) ds = filtL (cs.getD k nilCon) (filtC (cs.take k) ds) := by
  unfold filtC
  rw [take_succ_getD nilCon h, List.foldl_append]; rfl
theorem filtC_at {m : Mod} {ds xs : List Int} {k : Nat} (hM : MOk m) (hd : DOk m.doms.length ds) (e : xs = filtC (m.cons.take k) ds) : DOk m.doms.length xs := by
  subst e
  exact (filtC_ok (fun c hc => hM.cons c (List.mem_of_mem_take hc)) hd).1
/-! The reference's walk over the tuples. -/
/-- The tuples of w that begin with p (i values). -/
def extP (w : List Int) (i : Nat) (p : List Int) : List (List Int) := (tupL (w.drop i)).map (fun r => p ++ r)
theorem extP_base {w p : List Int} {i : Nat} (h : w.length ≤ i) : extP w i p = [p] := by simp [extP, List.drop_eq_nil_of_le h, tupL]
theorem extP_split {w p : List Int} {i : Nat} (h : i < w.length) : extP w i p = (valsI (w.getD i 0)).flatMap (fun v => extP w (i + 1) (p ++ [v])) := by
  unfold extP
  rw [List.drop_eq_getElem_cons h, tupL, List.map_flatMap, show w[i] = w.getD i 0 from by simp [List.getD, h]]
  simp [Function.comp_def]
theorem extP_all (w : List Int) : extP w 0 [] = tupL w := by simp [extP]
theorem take_set_succ {x p : List Int} {i : Nat} {v : Int} (h : x.take i = p) (hi : i < x.length) : (x.set i v).take (i + 1) = p ++ [v] := by
  rw [take_succ_getD 0 (by simpa using hi), List.take_set_of_le (Nat.le_refl _), h]
  congr 2
  rw [List.getD_eq_getElem?_getD, List.getElem?_set_self hi]; rfl
theorem take_of_succ {x p : List Int} {i : Nat} {v : Int} (h : x.take (i + 1) = p ++ [v]) (hp : p.length = i) : x.take i = p := by
  have : (x.take (i + 1)).take i = x.take i := by rw [List.take_take]; congr 1; omega
  rw [← this, h, List.take_append_of_le_length (by omega), List.take_of_length_le (by omega)]
theorem sat_of {c : Con} {n : Nat} {t : List Int} (hC : ConOk c n) (h1 : t.length = c.vars.length) (hv : Vals t) : SatOk c t := by
  have ho := hC.one
  have hf := hC.v
  simp only [validConB, Bool.and_eq_true] at hf
  exact ⟨hf.2, h1.symm, by omega, by omega, hv⟩
def extTo (w : List Int) (i : Nat) (p : List Int) (k : Nat) : List (List Int) := (membersTo (w.getD i 0) k).flatMap (fun v => extP w (i + 1) (p ++ [v]))
theorem extTo_0 (w : List Int) (i : Nat) (p : List Int) : extTo w i p 0 = [] := rfl
theorem extTo_T {w p : List Int} {i k : Nat} (h : hasB (w.getD i 0) (k : Int) = true) : extTo w i p k ++ extP w (i + 1) (p ++ [(k : Int)]) = extTo w i p (k + 1) := by
  unfold extTo; rw [← members_stepT rfl h]; simp
theorem extTo_F {w p : List Int} {i k : Nat} (h : hasB (w.getD i 0) (k : Int) = false) : extTo w i p k = extTo w i p (k + 1) := by
  unfold extTo; rw [← members_stepF rfl h]
theorem extTo_6 {w p : List Int} {i k : Nat} (h : i < w.length) (hk : k = 6) : extTo w i p k = extP w i p := by subst hk; exact (extP_split h).symm
theorem supp_stepS {c : Con} {T : List (List Int)} {t : List Int} {k : Nat} (hs : satB c t = true) (hS : SatOk c t) (hk : k < t.length) (b : (!(withinB (t.getD k 0) 0 5 && hasB ((suppM c T t k).getD k 0) (t.getD k 0))) = true) :
    (suppM c T t k).set k ((suppM c T t k).getD k 0 + ishl 1 (t.getD k 0)) = suppM c T t (k + 1) := by
  have h1 := hS.len
  have hv := hS.val.at hk
  rw [suppM_at (by omega)] at b ⊢
  rw [show withinB (t.getD k 0) 0 5 = true from withinB_iff.2 hv] at b
  exact suppM_set (by omega) (supp_addF hs hv (by simpa using b))
theorem supp_stepN {c : Con} {T : List (List Int)} {t : List Int} {k : Nat} (hs : satB c t = true) (hS : SatOk c t) (hk : k < t.length) (b : (!(withinB (t.getD k 0) 0 5 && hasB ((suppM c T t k).getD k 0) (t.getD k 0))) = false) :
    suppM c T t k = suppM c T t (k + 1) := by
  have h1 := hS.len
  have hv := hS.val.at hk
  rw [suppM_at (by omega)] at b
  rw [show withinB (t.getD k 0) 0 5 = true from withinB_iff.2 hv] at b
  exact suppM_same (by omega) (supp_addT hs hv (by simpa using b))
theorem dh_iff {d : Int} {k : Nat} (hk : k < 6) : (withinB (k : Int) 0 5 && hasB d (k : Int)) = hasB d (k : Int) := by
  rw [show withinB (k : Int) 0 5 = true from withinB_iff.2 (by omega)]; rfl
theorem supp_addle {c : Con} {T : List (List Int)} {t : List Int} {k : Nat} (hS : SatOk c t) (hk : k < t.length) : 0 ≤ (suppM c T t k).getD k 0 ∧ (suppM c T t k).getD k 0 ≤ 63 := by
  rw [suppM_at (by have := hS.len; omega)]; exact maskP_in _
/-! The reference's fixpoint. -/
theorem cons_no {cs : List Con} {ds : List Int} {k : Nat} (hk : k < cs.length) (h : (!(decide (filtL (cs.getD k nilCon) ds = ds))) = true) : false = consB cs ds :=
  (all_false (d := nilCon) hk (by simpa using h)).symm
theorem cons_step {cs : List Con} {ds : List Int} {k : Nat} (hk : k < cs.length) (hp : (cs.take k).all (fun c => decide (filtL c ds = ds)) = true) (h : (!(decide (filtL (cs.getD k nilCon) ds = ds))) = false) : (cs.take (k + 1)).all (fun c => decide (filtL c ds = ds)) = true :=
  all_take_step (d := nilCon) hk hp (by simpa using h)
theorem fix_go {m : Mod} {xs : List Int} (hM : MOk m) (hD : DOk m.doms.length xs) (h : (!(consB m.cons xs) && !(xs.contains 0)) = true) : filtA m xs ≠ xs ∧ xs.contains 0 = false := by
  simp only [Bool.and_eq_true, Bool.not_eq_true'] at h
  exact ⟨fun e => by have := (filtA_fix hM hD).1 e; rw [this] at h; simp at h, h.2⟩
theorem fix_end {m : Mod} {xs : List Int} (hM : MOk m) (hD : DOk m.doms.length xs) (h : (!(consB m.cons xs) && !(xs.contains 0)) = false) (h0 : xs.contains 0 = false) : prop m xs = xs := by
  rw [h0] at h
  exact prop_fix h0 ((filtA_fix hM hD).2 (by simpa using h))
/-! Branching, as the reference does it. -/
end Go.Proofs.YtojinjdobjodaaaGreat
