/- Parts of the proof: a logic of partial frames, plain functions, walks of the program's functions. Conditions: those that each statement names. -/
import Derived.Test.YtolndgeihijlbaaGreatKProveBound4
namespace Go.Proofs.YtolndgeihijlbaaGreat
open Go
set_option linter.unusedSimpArgs false
set_option linter.unusedVariables false
section
/-! ### Masks -/
def maskP (p : Int → Bool) : Int := (((p 0).toNat + 2 * (p 1).toNat + 4 * (p 2).toNat + 8 * (p 3).toNat + 16 * (p 4).toNat + 32 * (p 5).toNat : Nat) : Int)
theorem val_cases {v : Int} (h : 0 ≤ v ∧ v ≤ 5) : v = 0 ∨ v = 1 ∨ v = 2 ∨ v = 3 ∨ v = 4 ∨ v = 5 := by omega
theorem maskP_in (p : Int → Bool) : 0 ≤ maskP p ∧ maskP p ≤ 63 := by
  unfold maskP
  have h : ∀ b : Bool, b.toNat ≤ 1 := fun b => by cases b <;> simp
  have := h (p 0); have := h (p 1); have := h (p 2); have := h (p 3); have := h (p 4); have := h (p 5)
  omega
theorem maskP_has {p : Int → Bool} {v : Int} (h : 0 ≤ v ∧ v ≤ 5) : hasB (maskP p) v = p v := by
  have key : ∀ b0 b1 b2 b3 b4 b5 : Bool, let n : Int := ((b0.toNat + 2 * b1.toNat + 4 * b2.toNat + 8 * b3.toNat + 16 * b4.toNat + 32 * b5.toNat : Nat) : Int); hasB n 0 = b0 ∧ hasB n 1 = b1 ∧ hasB n 2 = b2 ∧ hasB n 3 = b3 ∧ hasB n 4 = b4 ∧ hasB n 5 = b5 := by decide +kernel
  obtain ⟨h0, h1, h2, h3, h4, h5⟩ := key (p 0) (p 1) (p 2) (p 3) (p 4) (p 5)
  unfold maskP
  rcases val_cases h with rfl | rfl | rfl | rfl | rfl | rfl <;> assumption
theorem maskP_congr {p q : Int → Bool} (h : ∀ v, 0 ≤ v ∧ v ≤ 5 → p v = q v) : maskP p = maskP q := by
  unfold maskP; rw [h 0 (by omega), h 1 (by omega), h 2 (by omega), h 3 (by omega), h 4 (by omega), h 5 (by omega)]
theorem dom_mask {d : Int} (h : 0 ≤ d ∧ d ≤ 63) : maskP (hasB d) = d :=
  fin_nat (n := 64) (p := fun d => maskP (hasB d) = d) (by decide +kernel) h.1 (by omega)
theorem dom_ext {d e : Int} (hd : 0 ≤ d ∧ d ≤ 63) (he : 0 ≤ e ∧ e ≤ 63) (h : ∀ v, 0 ≤ v ∧ v ≤ 5 → hasB d v = hasB e v) : d = e := by
  rw [← dom_mask hd, ← dom_mask he]; exact maskP_congr h
theorem ior_has {d : Int} (hd : 0 ≤ d ∧ d ≤ 63) {v : Int} (hv : 0 ≤ v ∧ v ≤ 5) : ior d (ishl 1 v) = maskP (fun u => hasB d u || decide (u = v)) := by
  have key : ∀ i, i < 64 → ∀ j, j < 6 → ior ((i : Nat) : Int) (ishl 1 ((j : Nat) : Int)) = maskP (fun u => hasB ((i : Nat) : Int) u || decide (u = ((j : Nat) : Int))) := by decide +kernel
  exact fin_nat (n := 64) (p := fun d => ior d (ishl 1 v) = maskP (fun u => hasB d u || decide (u = v))) (fun i hi => fin_nat (n := 6) (p := fun v => ior ((i : Nat) : Int) (ishl 1 v) = maskP (fun u => hasB ((i : Nat) : Int) u || decide (u = v))) (fun j hj => key i hi j hj) hv.1 (by omega)) hd.1 (by omega)
theorem add_has {d : Int} (hd : 0 ≤ d ∧ d ≤ 63) {v : Int} (hv : 0 ≤ v ∧ v ≤ 5) (h : hasB d v = false) : d + ishl 1 v = maskP (fun u => hasB d u || decide (u = v)) := by
  have key : ∀ i, i < 64 → ∀ j, j < 6 → hasB ((i : Nat) : Int) ((j : Nat) : Int) = false → ((i : Nat) : Int) + (ishl 1 ((j : Nat) : Int)) = maskP (fun u => hasB ((i : Nat) : Int) u || decide (u = ((j : Nat) : Int))) := by decide +kernel
  exact fin_nat (n := 64) (p := fun d => hasB d v = false → d + (ishl 1 v) = maskP (fun u => hasB d u || decide (u = v))) (fun i hi => fin_nat (n := 6) (p := fun v => hasB ((i : Nat) : Int) v = false → ((i : Nat) : Int) + (ishl 1 v) = maskP (fun u => hasB ((i : Nat) : Int) u || decide (u = v))) (fun j hj => key i hi j hj) hv.1 (by omega)) hd.1 (by omega) h
theorem sub_le {d e : Int} (hd : 0 ≤ d ∧ d ≤ 63) (he : 0 ≤ e ∧ e ≤ 63) (h : ∀ v, 0 ≤ v ∧ v ≤ 5 → hasB e v = true → hasB d v = true) : e ≤ d := by
  rw [← dom_mask hd, ← dom_mask he]
  unfold maskP
  have k : ∀ v, 0 ≤ v ∧ v ≤ 5 → (hasB e v).toNat ≤ (hasB d v).toNat := fun v hv => by
    have := h v hv
    cases h1 : hasB e v with
    | false => simp
    | true => rw [this h1]; simp
  have := k 0 (by omega); have := k 1 (by omega); have := k 2 (by omega); have := k 3 (by omega); have := k 4 (by omega); have := k 5 (by omega)
  omega
theorem mem_valsI {d v : Int} : v ∈ valsI d ↔ (0 ≤ v ∧ v ≤ 5) ∧ hasB d v = true := by
  simp only [valsI, membersTo, natsI, List.mem_map, List.mem_filter, List.mem_range]
  constructor
  · rintro ⟨i, ⟨h1, h2⟩, rfl⟩; exact ⟨by omega, h2⟩
  · rintro ⟨h1, h2⟩
    obtain ⟨i, rfl⟩ := Int.eq_ofNat_of_zero_le h1.1
    exact ⟨i, ⟨by omega, h2⟩, rfl⟩
theorem valsI_sub {d e : Int} (h : ∀ v, 0 ≤ v ∧ v ≤ 5 → hasB e v = true → hasB d v = true) : valsI e = (valsI d).filter (fun v => hasB e v) := by
  simp only [valsI, membersTo, natsI, List.filter_map, List.filter_filter]
  congr 1
  refine List.filter_congr fun i hi => ?_
  have := h (i : Int) (by have := List.mem_range.1 hi; omega)
  simp only [Function.comp]
  cases h1 : hasB e (i : Int) with
  | false => simp
  | true => rw [this h1]; rfl
theorem valsI_0 : valsI 0 = [] := by decide +kernel
theorem valsI_ne {d : Int} (hd : 0 ≤ d ∧ d ≤ 63) (h : d ≠ 0) : valsI d ≠ [] := by
  have key : ∀ i, i < 64 → i ≠ 0 → valsI ((i : Nat) : Int) ≠ [] := by decide +kernel
  exact fin_nat (n := 64) (p := fun d => d ≠ 0 → valsI d ≠ []) (fun i hi h0 => key i hi (fun e => h0 (by rw [e]; rfl))) hd.1 (by omega) h
theorem valsI_one {v : Int} (h : 0 ≤ v ∧ v ≤ 5) : valsI (ishl 1 v) = [v] :=
  fin_nat (n := 6) (p := fun v => valsI (ishl 1 v) = [v]) (by decide +kernel) h.1 (by omega)
theorem shl_lt {d v : Int} (hd : 0 ≤ d ∧ d ≤ 63) (hm : v ∈ valsI d) (hl : (valsI d).length ≠ 1) : ishl 1 v < d := by
  have key : ∀ i, i < 64 → ∀ j, j < 6 → ((j : Nat) : Int) ∈ valsI ((i : Nat) : Int) → (valsI ((i : Nat) : Int)).length ≠ 1 → ishl 1 ((j : Nat) : Int) < ((i : Nat) : Int) := by decide +kernel
  have hv := valsI_mem hm
  exact fin_nat (n := 64) (p := fun d => v ∈ valsI d → (valsI d).length ≠ 1 → ishl 1 v < d) (fun i hi => fin_nat (n := 6) (p := fun v => v ∈ valsI ((i : Nat) : Int) → (valsI ((i : Nat) : Int)).length ≠ 1 → ishl 1 v < ((i : Nat) : Int)) (fun j hj => key i hi j hj) hv.1 (by omega)) hd.1 (by omega) hm hl
/-! ### Boxes -/
def DomV (ds : List Int) : Prop := ∀ d ∈ ds, (0 : Int) ≤ d ∧ d ≤ 63
theorem DomV.at {ds : List Int} (h : DomV ds) {i : Nat} (hi : i < ds.length) : (0 : Int) ≤ ds.getD i 0 ∧ ds.getD i 0 ≤ 63 := h _ (getD_mem hi)
def Box (ds x : List Int) : Prop := x.length = ds.length ∧ ∀ i, i < ds.length → x.getD i 0 ∈ valsI (ds.getD i 0)
theorem box_cons {d : Int} {ds x : List Int} : Box (d :: ds) x ↔ ∃ v y, x = v :: y ∧ v ∈ valsI d ∧ Box ds y := by
  constructor
  · rintro ⟨hl, h⟩
    cases x with
    | nil => simp at hl
    | cons v y =>
      refine ⟨v, y, rfl, by simpa using h 0 (by simp), by simpa using hl, fun i hi => ?_⟩
      simpa using h (i + 1) (by simpa using hi)
  · rintro ⟨v, y, rfl, hv, hl, h⟩
    refine ⟨by simpa using hl, fun i hi => ?_⟩
    cases i with
    | zero => simpa using hv
    | succ i => simpa using h i (by simpa using hi)
theorem mem_tupL {ds : List Int} : ∀ {x : List Int}, x ∈ tupL ds ↔ Box ds x := by
  induction ds with
  | nil => intro x; simp [tupL, Box]
  | cons d ds ih =>
    intro x
    rw [box_cons]
    simp only [tupL, List.mem_flatMap, List.mem_map]
    constructor
    · rintro ⟨v, hv, y, hy, rfl⟩; exact ⟨v, y, rfl, hv, ih.1 hy⟩
    · rintro ⟨v, y, rfl, hv, hy⟩; exact ⟨v, hv, y, ih.2 hy, rfl⟩
theorem Box.vals {ds x : List Int} (h : Box ds x) : Vals x := fun v hv => by
  obtain ⟨i, hi, rfl⟩ := List.getElem_of_mem hv
  have := h.2 i (by rw [← h.1]; exact hi)
  rw [show x[i] = x.getD i 0 from by simp [List.getD, hi]]
  exact valsI_mem this
def boxB : List Int → List Int → Bool
  | [], [] => true
  | d :: ds, v :: x => hasB d v && boxB ds x
  | _, _ => false
theorem boxB_iff {ds : List Int} : ∀ {x : List Int}, Vals x → (boxB ds x = true ↔ Box ds x) := by
  induction ds with
  | nil => intro x _; cases x <;> simp [boxB, Box]
  | cons d ds ih =>
    intro x hx
    rw [box_cons]
    cases x with
    | nil => simp [boxB]
    | cons v y =>
      simp only [boxB, Bool.and_eq_true, List.cons.injEq]
      have hy : Vals y := fun u hu => hx u (.tail _ hu)
      constructor
      · rintro ⟨h1, h2⟩; exact ⟨v, y, ⟨rfl, rfl⟩, mem_valsI.2 ⟨hx v (.head _), h1⟩, (ih hy).1 h2⟩
      · rintro ⟨v', y', ⟨rfl, rfl⟩, h1, h2⟩; exact ⟨(mem_valsI.1 h1).2, (ih hy).2 h2⟩
/-- es lies in ds. -/
def SubD (es ds : List Int) : Prop := es.length = ds.length ∧ ∀ i, i < ds.length → ∀ v, 0 ≤ v ∧ v ≤ 5 → hasB (es.getD i 0) v = true → hasB (ds.getD i 0) v = true
theorem SubD.refl (ds : List Int) : SubD ds ds := ⟨rfl, fun _ _ _ _ h => h⟩
theorem SubD.trans {a b c : List Int} (h : SubD a b) (k : SubD b c) : SubD a c := ⟨h.1.trans k.1, fun i hi v hv hh => k.2 i hi v hv (h.2 i (by rw [k.1]; exact hi) v hv hh)⟩
theorem flat_filter {A B : Type} {f g : A → List B} {p : B → Bool} {q : A → Bool} : ∀ {xs : List A}, (∀ x ∈ xs, (f x).filter p = if q x = true then g x else []) → (xs.flatMap f).filter p = (xs.filter q).flatMap g
  | [], _ => rfl
  | x :: xs, h => by
    rw [List.flatMap_cons, List.filter_append, flat_filter (fun y hy => h y (.tail _ hy)), h x (.head _)]
    cases hq : q x with
    | true => rw [List.filter_cons, if_pos hq, List.flatMap_cons]; rfl
    | false => rw [List.filter_cons, hq]; rfl
theorem tupL_sub {ds : List Int} : ∀ {es : List Int}, SubD es ds → tupL es = (tupL ds).filter (boxB es) := by
  induction ds with
  | nil => intro es h; cases es with | nil => rfl | cons e es => simp [SubD] at h
  | cons d ds ih =>
    intro es h
    cases es with
    | nil => simp [SubD] at h
    | cons e es =>
      have h1 : SubD es ds := ⟨by simpa using h.1, fun i hi v hv hh => by simpa using h.2 (i + 1) (by simpa using hi) v hv (by simpa using hh)⟩
      have h0 := valsI_sub (d := d) (e := e) (fun v hv hh => by simpa using h.2 0 (by simp) v hv (by simpa using hh))
      simp only [tupL]
      rw [flat_filter (q := fun v => hasB e v) (g := fun v => (tupL es).map (fun r => v :: r)) (fun v hv => ?_), ← h0]
      rw [List.filter_map]
      have hc : (boxB (e :: es) ∘ fun r => v :: r) = fun r => hasB e v && boxB es r := rfl
      rw [hc]
      cases hh : hasB e v with
      | true => simp only [Bool.true_and, if_true]; rw [ih h1]
      | false => simp
/-! ### One constraint -/
def supp (c : Con) (T : List (List Int)) (j : Nat) : Int := maskP (fun v => T.any (fun t => satB c t && decide (v = t.getD j 0)))
def suppV (c : Con) (T : List (List Int)) : List Int := (List.range c.vars.length).map (supp c T)
theorem suppV_len (c : Con) (T : List (List Int)) : (suppV c T).length = c.vars.length := by simp [suppV]
theorem suppV_at {c : Con} {T : List (List Int)} {j : Nat} (h : j < c.vars.length) : (suppV c T).getD j 0 = supp c T j := by simp [suppV, List.getD, h]
theorem supp_has {c : Con} {T : List (List Int)} {j : Nat} {v : Int} (h : 0 ≤ v ∧ v ≤ 5) : hasB (supp c T j) v = true ↔ ∃ t ∈ T, satB c t = true ∧ v = t.getD j 0 := by
  unfold supp
  rw [maskP_has h, List.any_eq_true]
  simp only [Bool.and_eq_true, decide_eq_true_eq]
theorem supp_no {c : Con} {T : List (List Int)} {t : List Int} (h : satB c t = false) (j : Nat) : supp c (T ++ [t]) j = supp c T j := by
  unfold supp; refine maskP_congr fun v _ => ?_
  rw [List.any_append]; simp [h]
theorem suppV_no {c : Con} {T : List (List Int)} {t : List Int} (h : satB c t = false) : suppV c (T ++ [t]) = suppV c T := by
  unfold suppV; exact List.map_congr_left fun j _ => supp_no h j
theorem supp_yes {c : Con} {T : List (List Int)} {t : List Int} (h : satB c t = true) {j : Nat} (hv : 0 ≤ t.getD j 0 ∧ t.getD j 0 ≤ 5) : supp c (T ++ [t]) j = maskP (fun u => hasB (supp c T j) u || decide (u = t.getD j 0)) := by
  refine maskP_congr fun v hv => ?_
  unfold supp
  rw [maskP_has hv, List.any_append]; simp [h]
theorem supp_or {c : Con} {T : List (List Int)} {t : List Int} (h : satB c t = true) {j : Nat} (hv : 0 ≤ t.getD j 0 ∧ t.getD j 0 ≤ 5) : ior (supp c T j) (ishl 1 (t.getD j 0)) = supp c (T ++ [t]) j := by
  rw [supp_yes h hv]; exact ior_has (maskP_in _) hv
theorem supp_addF {c : Con} {T : List (List Int)} {t : List Int} (h : satB c t = true) {j : Nat} (hv : 0 ≤ t.getD j 0 ∧ t.getD j 0 ≤ 5) (hh : hasB (supp c T j) (t.getD j 0) = false) : supp c T j + ishl 1 (t.getD j 0) = supp c (T ++ [t]) j := by
  rw [supp_yes h hv]; exact add_has (maskP_in _) hv hh
theorem supp_addT {c : Con} {T : List (List Int)} {t : List Int} (h : satB c t = true) {j : Nat} (hv : 0 ≤ t.getD j 0 ∧ t.getD j 0 ≤ 5) (hh : hasB (supp c T j) (t.getD j 0) = true) : supp c T j = supp c (T ++ [t]) j := by
  rw [supp_yes h hv]
  refine dom_ext (maskP_in _) (maskP_in _) fun v hv' => ?_
  rw [maskP_has (p := fun u => hasB (supp c T j) u || decide (u = t.getD j 0)) hv']
  by_cases e : v = t.getD j 0
  · rw [e, hh]; rfl
  · rw [decide_eq_false e, Bool.or_false]
/-- Between two tuples: the first j positions have the new one. -/
def suppM (c : Con) (T : List (List Int)) (t : List Int) (j : Nat) : List Int := (List.range c.vars.length).map (fun i => if i < j then supp c (T ++ [t]) i else supp c T i)
theorem suppM_0 (c : Con) (T : List (List Int)) (t : List Int) : suppM c T t 0 = suppV c T := by simp [suppM, suppV]
theorem suppM_len (c : Con) (T : List (List Int)) (t : List Int) (j : Nat) : (suppM c T t j).length = c.vars.length := by simp [suppM]
theorem suppM_all (c : Con) (T : List (List Int)) (t : List Int) {j : Nat} (h : c.vars.length ≤ j) : suppM c T t j = suppV c (T ++ [t]) := by
  unfold suppM suppV
  refine List.map_congr_left fun i hi => ?_
  rw [if_pos (by have := List.mem_range.1 hi; omega)]
theorem suppM_at {c : Con} {T : List (List Int)} {t : List Int} {j : Nat} (h : j < c.vars.length) : (suppM c T t j).getD j 0 = supp c T j := by simp [suppM, List.getD, h]
theorem suppM_set {c : Con} {T : List (List Int)} {t : List Int} {j : Nat} (h : j < c.vars.length) {y : Int} (e : y = supp c (T ++ [t]) j) : (suppM c T t j).set j y = suppM c T t (j + 1) := by
  subst e
  refine List.ext_getElem (by simp [suppM]) fun i h1 h2 => ?_
  simp only [suppM, List.getElem_set, List.getElem_map, List.getElem_range]
  by_cases e : j = i
  · subst e; simp
  · rw [if_neg e]
    by_cases h3 : i < j
    · rw [if_pos h3, if_pos (by omega)]
    · rw [if_neg h3, if_neg (by omega)]
theorem suppM_same {c : Con} {T : List (List Int)} {t : List Int} {j : Nat} (h : j < c.vars.length) (e : supp c T j = supp c (T ++ [t]) j) : suppM c T t j = suppM c T t (j + 1) := by
  rw [← suppM_set h rfl, ← e]
  refine List.ext_getElem (by simp) fun i h1 h2 => ?_
  rw [List.getElem_set]
  split
  · rename_i e; subst e; simp [suppM]
  · rfl
def filtTo (c : Con) (ds L : List Int) (k : Nat) : List Int := (List.range k).foldl (fun o j => o.set (c.vars.getD j 0).toNat (L.getD j 0)) ds
theorem filtTo_succ (c : Con) (ds L : List Int) (k : Nat) : filtTo c ds L (k + 1) = (filtTo c ds L k).set (c.vars.getD k 0).toNat (L.getD k 0) := by
  simp [filtTo, List.range_succ]
theorem filtTo_len (c : Con) (ds L : List Int) : ∀ k, (filtTo c ds L k).length = ds.length
  | 0 => rfl
  | k + 1 => by rw [filtTo_succ, List.length_set, filtTo_len c ds L k]
def tups (c : Con) (ds : List Int) : List (List Int) := tupL (wordL c.vars ds)
def filtL (c : Con) (ds : List Int) : List Int := filtTo c ds (suppV c (tups c ds)) c.vars.length
theorem filtL_len (c : Con) (ds : List Int) : (filtL c ds).length = ds.length := filtTo_len _ _ _ _
theorem filtTo_no {c : Con} {ds L : List Int} {i : Nat} : ∀ k, (∀ j, j < k → (c.vars.getD j 0).toNat ≠ i) → (filtTo c ds L k).getD i 0 = ds.getD i 0
  | 0, _ => rfl
  | k + 1, h => by
    rw [filtTo_succ]
    have h0 := h k (by omega)
    rw [List.getD_eq_getElem?_getD, List.getElem?_set_ne h0, ← List.getD_eq_getElem?_getD]
    exact filtTo_no k (fun j hj => h j (by omega))
theorem filtTo_at {c : Con} {ds L : List Int} {i j : Nat} (hi : i < ds.length) (e : (c.vars.getD j 0).toNat = i) : ∀ k, j < k → (∀ j', j' < k → (c.vars.getD j' 0).toNat = i → j' = j) → (filtTo c ds L k).getD i 0 = L.getD j 0
  | 0, h, _ => absurd h (Nat.not_lt_zero _)
  | k + 1, h, hu => by
    rw [filtTo_succ]
    by_cases hk : j = k
    · subst hk
      rw [e, List.getD_eq_getElem?_getD, List.getElem?_set_self (by rw [filtTo_len]; exact hi)]; rfl
    · have h0 : (c.vars.getD k 0).toNat ≠ i := fun e' => hk (hu k (by omega) e').symm
      rw [List.getD_eq_getElem?_getD, List.getElem?_set_ne h0, ← List.getD_eq_getElem?_getD]
      exact filtTo_at hi e k (by omega) (fun j' hj' => hu j' (by omega))
theorem ConOk.inj {c : Con} {n : Nat} (h : ConOk c n) {i j : Nat} (hi : i < c.vars.length) (hj : j < c.vars.length) (e : (c.vars.getD i 0).toNat = (c.vars.getD j 0).toNat) : i = j := by
  have hv := h.v
  simp only [validConB, Bool.and_eq_true, distinctB, decide_eq_true_eq] at hv
  have hn := hv.1.2
  have h1 := h.at hi; have h2 := h.at hj
  have e2 : c.vars.getD i 0 = c.vars.getD j 0 := by omega
  have e3 : c.vars[i] = c.vars[j] := by simpa [List.getD, hi, hj] using e2
  have hp := List.pairwise_iff_getElem.1 hn
  rcases Nat.lt_trichotomy i j with h3 | h3 | h3
  · exact absurd e3 (hp i j hi hj h3)
  · exact h3
  · exact absurd e3.symm (hp j i hj hi h3)
section filt
variable {c : Con} {n : Nat} {ds : List Int}
/-- What a filtered domain is. -/
theorem filt_cases (hc : ConOk c n) (hl : ds.length = n) {i : Nat} (hi : i < n) : (∃ j, j < c.vars.length ∧ (c.vars.getD j 0).toNat = i ∧ (filtL c ds).getD i 0 = supp c (tups c ds) j) ∨ ((∀ j, j < c.vars.length → (c.vars.getD j 0).toNat ≠ i) ∧ (filtL c ds).getD i 0 = ds.getD i 0) := by
  by_cases h : ∃ j, j < c.vars.length ∧ (c.vars.getD j 0).toNat = i
  · obtain ⟨j, hj, e⟩ := h
    refine .inl ⟨j, hj, e, ?_⟩
    rw [← suppV_at hj]
    exact filtTo_at (by omega) e _ hj (fun j' hj' e' => hc.inj hj' hj (by omega))
  · have h' : ∀ j, j < c.vars.length → (c.vars.getD j 0).toNat ≠ i := fun j hj e => h ⟨j, hj, e⟩
    exact .inr ⟨h', filtTo_no _ h'⟩
theorem word_at {vs ds : List Int} {j : Nat} (h : j < vs.length) : (wordL vs ds).getD j 0 = ds.getD (vs.getD j 0).toNat 0 := by simp [wordL, List.getD, h]
theorem filt_sub (hc : ConOk c n) (hl : ds.length = n) : SubD (filtL c ds) ds := ⟨filtL_len c ds, fun i hi v hv h => by
  rcases filt_cases hc hl (i := i) (by omega) with ⟨j, hj, e, e2⟩ | ⟨_, e2⟩
  · rw [e2] at h
    obtain ⟨t, ht, _, rfl⟩ := (supp_has hv).1 h
    have hb := mem_tupL.1 ht
    have := hb.2 j (by simpa [wordL] using hj)
    rw [word_at hj, e] at this
    exact (mem_valsI.1 this).2
  · rw [e2] at h; exact h⟩
theorem filt_dom (hc : ConOk c n) (hl : ds.length = n) (hd : DomV ds) : DomV (filtL c ds) := fun d hm => by
  obtain ⟨i, hi, rfl⟩ := List.getElem_of_mem hm
  rw [show (filtL c ds)[i] = (filtL c ds).getD i 0 from by simp [List.getD, hi]]
  rw [filtL_len] at hi
  rcases filt_cases hc hl (i := i) (by omega) with ⟨j, hj, e, e2⟩ | ⟨_, e2⟩
  · rw [e2]; exact maskP_in _
  · rw [e2]; exact hd.at hi
theorem box_word {x : List Int} (hc : ConOk c n) (hl : ds.length = n) (h : Box ds x) : Box (wordL c.vars ds) (wordL c.vars x) := ⟨by simp [wordL], fun j hj => by
  have hj : j < c.vars.length := by simpa [wordL] using hj
  rw [word_at hj, word_at hj]
  exact h.2 _ (by have := hc.at hj; omega)⟩
theorem filt_sound {x : List Int} (hc : ConOk c n) (hl : ds.length = n) (h : Box ds x) (hs : conAt x c = true) : Box (filtL c ds) x := ⟨by rw [filtL_len]; exact h.1, fun i hi => by
  rw [filtL_len] at hi
  rcases filt_cases hc hl (i := i) (by omega) with ⟨j, hj, e, e2⟩ | ⟨_, e2⟩
  · rw [e2, mem_valsI]
    have hv := valsI_mem (h.2 i hi)
    refine ⟨hv, (supp_has hv).2 ⟨wordL c.vars x, mem_tupL.2 (box_word hc hl h), hs, ?_⟩⟩
    rw [word_at hj, e]
  · rw [e2]; exact h.2 i hi⟩
theorem filt_sat {x : List Int} (hc : ConOk c n) (hl : ds.length = n) (hf : filtL c ds = ds) (h : Box ds x) (h1 : ∀ i, i < n → (valsI (ds.getD i 0)).length = 1) : conAt x c = true := by
  have h0 := hc.one
  have hj : 0 < c.vars.length := by omega
  have hi := hc.at hj
  have hin : (c.vars.getD 0 0).toNat < n := by omega
  have hx := h.2 (c.vars.getD 0 0).toNat (by omega)
  rcases filt_cases hc hl hin with ⟨j, hj2, e, e2⟩ | ⟨h2, _⟩
  · rw [hf] at e2
    rw [e2] at hx
    obtain ⟨t, ht, hs, _⟩ := (supp_has (valsI_mem hx)).1 (mem_valsI.1 hx).2
    have hb := mem_tupL.1 ht
    have he : t = wordL c.vars x := by
      have hbw := box_word hc hl h
      refine List.ext_getElem (by rw [hb.1, hbw.1]) fun k k1 k2 => ?_
      have k3 : k < (wordL c.vars ds).length := by rw [← hb.1]; exact k1
      have a := hb.2 k k3
      have b := hbw.2 k k3
      have k4 : k < c.vars.length := by simpa [wordL] using k3
      rw [word_at (ds := ds) k4] at a b
      have hk := hc.at k4
      have l1 := h1 (c.vars.getD k 0).toNat (by omega)
      obtain ⟨w, hw⟩ := List.length_eq_one_iff.1 l1
      rw [hw, List.mem_singleton] at a b
      rw [show t[k] = t.getD k 0 from by simp [List.getD, k1], show (wordL c.vars x)[k] = (wordL c.vars x).getD k 0 from by simp [List.getD, k2], a, b]
    unfold conAt; rw [← he]; exact hs
  · exact absurd rfl (h2 0 hj)
end filt
/-! ### All constraints, until nothing changes -/
def sumN (ds : List Int) : Nat := (ds.map Int.toNat).sum
theorem sumN_le : ∀ {es ds : List Int}, es.length = ds.length → (∀ i, i < ds.length → es.getD i 0 ≤ ds.getD i 0) → sumN es ≤ sumN ds
  | [], [], _, _ => Nat.le_refl _
  | [], _ :: _, h, _ => by simp at h
  | _ :: _, [], h, _ => by simp at h
  | e :: es, d :: ds, hl, h => by
    have h0 := h 0 (by simp)
    have ih := sumN_le (es := es) (ds := ds) (by simpa using hl) (fun i hi => by simpa using h (i + 1) (by simpa using hi))
    simp only [sumN, List.map_cons, List.sum_cons] at *
    simp at h0
    omega
theorem sumN_lt : ∀ {es ds : List Int}, es.length = ds.length → (∀ d ∈ es, (0 : Int) ≤ d) → (∀ i, i < ds.length → es.getD i 0 ≤ ds.getD i 0) → es ≠ ds → sumN es < sumN ds
  | [], [], _, _, _, h => absurd rfl h
  | [], _ :: _, h, _, _, _ => by simp at h
  | _ :: _, [], h, _, _, _ => by simp at h
  | e :: es, d :: ds, hl, hp, h, hne => by
    have h0 := h 0 (by simp)
    have hl' : es.length = ds.length := by simpa using hl
    have h' : ∀ i, i < ds.length → es.getD i 0 ≤ ds.getD i 0 := fun i hi => by simpa using h (i + 1) (by simpa using hi)
    have ih := sumN_le hl' h'
    have he := hp e (.head _)
    simp only [sumN, List.map_cons, List.sum_cons] at *
    simp at h0
    by_cases e1 : e = d
    · have := sumN_lt hl' (fun d hd => hp d (.tail _ hd)) h' (fun e2 => hne (by rw [e1, e2]))
      simp only [sumN] at this
      omega
    · omega
theorem SubD.sum {es ds : List Int} (h : SubD es ds) (he : DomV es) (hd : DomV ds) : sumN es ≤ sumN ds :=
  sumN_le h.1 fun i hi => sub_le (hd.at hi) (he.at (by rw [h.1]; exact hi)) (h.2 i hi)
theorem SubD.lt {es ds : List Int} (h : SubD es ds) (he : DomV es) (hd : DomV ds) (hne : es ≠ ds) : sumN es < sumN ds :=
  sumN_lt h.1 (fun d hm => (he d hm).1) (fun i hi => sub_le (hd.at hi) (he.at (by rw [h.1]; exact hi)) (h.2 i hi)) hne
def filtC (cs : List Con) (ds : List Int) : List Int := cs.foldl (fun d c => filtL c d) ds
def filtA (m : Mod) (ds : List Int) : List Int := filtC m.cons ds
def consB (cs : List Con) (ds : List Int) : Bool := cs.all (fun c => decide (filtL c ds = ds))
def zerosL (n : Nat) : List Int := List.replicate n 0
def prop (m : Mod) (ds : List Int) : List Int :=
  if ds.contains 0 = true then zerosL ds.length else if filtA m ds = ds then ds else if h : sumN (filtA m ds) < sumN ds then prop m (filtA m ds) else ds
termination_by sumN ds
/-- Domains of a model's variables. -/
structure DOk (n : Nat) (ds : List Int) : Prop where
  l : ds.length = n
  d : DomV ds
theorem filtC_ok {cs : List Con} {n : Nat} (hc : ∀ c ∈ cs, ConOk c n) : ∀ {ds : List Int}, DOk n ds → DOk n (filtC cs ds) ∧ SubD (filtC cs ds) ds := by
  induction cs with
  | nil => intro ds h; exact ⟨h, SubD.refl _⟩
  | cons c cs ih =>
    intro ds h
    have h0 := hc c (.head _)
    have h1 : DOk n (filtL c ds) := ⟨(filtL_len c ds).trans h.l, filt_dom h0 h.l h.d⟩
    obtain ⟨h2, h3⟩ := ih (fun c hm => hc c (.tail _ hm)) h1
    exact ⟨h2, h3.trans (filt_sub h0 h.l)⟩
theorem filtC_fix {cs : List Con} {n : Nat} (hc : ∀ c ∈ cs, ConOk c n) : ∀ {ds : List Int}, DOk n ds → (filtC cs ds = ds ↔ consB cs ds = true) := by
  induction cs with
  | nil => intro ds h; simp [filtC, consB]
  | cons c cs ih =>
    intro ds h
    have h0 := hc c (.head _)
    have hcs : ∀ c ∈ cs, ConOk c n := fun c hm => hc c (.tail _ hm)
    have h1 : DOk n (filtL c ds) := ⟨(filtL_len c ds).trans h.l, filt_dom h0 h.l h.d⟩
    have hs := filt_sub h0 h.l
    have h2 := filtC_ok hcs h1
    simp only [consB, List.all_cons, Bool.and_eq_true, decide_eq_true_eq]
    constructor
    · intro e
      have e1 : filtC cs (filtL c ds) = ds := e
      have e2 : filtL c ds = ds := by
        by_cases hne : filtL c ds = ds
        · exact hne
        · have a := hs.lt h1.d h.d hne
          have b := h2.2.sum h2.1.d h1.d
          rw [e1] at b; omega
      rw [e2] at e1
      exact ⟨e2, (ih hcs h).1 e1⟩
    · rintro ⟨e1, e2⟩
      show filtC cs (filtL c ds) = ds
      rw [e1]; exact (ih hcs h).2 e2
section props
variable {m : Mod} {ds : List Int}
theorem MOk.cons (hM : MOk m) : ∀ c ∈ m.cons, ConOk c m.doms.length := fun c hc => ⟨hM.cm hc⟩
theorem MOk.dok (hM : MOk m) : DOk m.doms.length m.doms := ⟨rfl, fun d hd => by
  obtain ⟨i, hi, rfl⟩ := List.getElem_of_mem hd
  rw [show m.doms[i] = m.doms.getD i 0 from by simp [List.getD, hi]]
  exact hM.d hi⟩
theorem filtA_ok (hM : MOk m) (h : DOk m.doms.length ds) : DOk m.doms.length (filtA m ds) ∧ SubD (filtA m ds) ds := filtC_ok hM.cons h
theorem filtA_lt (hM : MOk m) (h : DOk m.doms.length ds) (hne : filtA m ds ≠ ds) : sumN (filtA m ds) < sumN ds :=
  (filtA_ok hM h).2.lt (filtA_ok hM h).1.d h.d hne
theorem filtA_fix (hM : MOk m) (h : DOk m.doms.length ds) : filtA m ds = ds ↔ consB m.cons ds = true := filtC_fix hM.cons h
theorem prop_0 (h : ds.contains 0 = true) : prop m ds = zerosL ds.length := by rw [prop, if_pos h]
theorem prop_fix (h : ds.contains 0 = false) (e : filtA m ds = ds) : prop m ds = ds := by rw [prop, if_neg (by rw [h]; simp), if_pos e]
theorem prop_step (hM : MOk m) (hd : DOk m.doms.length ds) (h : ds.contains 0 = false) (e : filtA m ds ≠ ds) : prop m (filtA m ds) = prop m ds := by
  rw [prop.eq_1 m ds, if_neg (by rw [h]; simp), if_neg e, dif_pos (filtA_lt hM hd e)]
theorem zerosL_ok (n : Nat) : DOk n (zerosL n) := ⟨by simp [zerosL], fun d hd => by
  simp only [zerosL, List.mem_replicate] at hd
  omega⟩
theorem zerosL_sub (ds : List Int) : SubD (zerosL ds.length) ds := ⟨by simp [zerosL], fun i hi v hv h => by
  have : (zerosL ds.length).getD i 0 = 0 := by simp [zerosL, List.getD, hi]
  rw [this] at h
  have h2 : v ∈ valsI 0 := mem_valsI.2 ⟨hv, h⟩
  rw [valsI_0] at h2; cases h2⟩
theorem tupL_0 {ds : List Int} (h : ds.contains 0 = true) : tupL ds = [] := by
  cases e : tupL ds with
  | nil => rfl
  | cons x xs =>
    exfalso
    have hb := mem_tupL.1 (show x ∈ tupL ds by rw [e]; exact .head _)
    obtain ⟨i, hi, h0⟩ := List.getElem_of_mem (List.contains_iff_mem.1 h)
    have := hb.2 i hi
    rw [show ds.getD i 0 = ds[i] from by simp [List.getD, hi], h0, valsI_0] at this
    cases this
def solT (m : Mod) (ds : List Int) : List (List Int) := (tupL ds).filter (metB m)
theorem solT_filt (hM : MOk m) {c : Con} (hc : c ∈ m.cons) (hd : DOk m.doms.length ds) : solT m (filtL c ds) = solT m ds := by
  unfold solT
  rw [tupL_sub (filt_sub (hM.cons c hc) hd.l), List.filter_filter]
  refine List.filter_congr fun x hx => ?_
  have hb := mem_tupL.1 hx
  cases h : metB m x with
  | false => simp
  | true =>
    have := (boxB_iff hb.vals).2 (filt_sound (hM.cons c hc) hd.l hb (List.all_eq_true.1 h c hc))
    rw [this]; rfl
theorem solT_filtC (hM : MOk m) : ∀ {cs : List Con}, (∀ c ∈ cs, c ∈ m.cons) → ∀ {ds : List Int}, DOk m.doms.length ds → solT m (filtC cs ds) = solT m ds
  | [], _, _, _ => rfl
  | c :: cs, h, ds, hd => by
    have h0 := hM.cons c (h c (.head _))
    have h1 : DOk m.doms.length (filtL c ds) := ⟨(filtL_len c ds).trans hd.l, filt_dom h0 hd.l hd.d⟩
    exact (solT_filtC hM (cs := cs) (fun c hm => h c (.tail _ hm)) h1).trans (solT_filt hM (h c (.head _)) hd)
/-- What propagation gives: valid domains, within the old ones, with the same solutions; either no domain is empty and no constraint changes them, or all are. -/
structure PropOk (m : Mod) (ds es : List Int) : Prop where
  ok : DOk m.doms.length es
  sub : SubD es ds
  sol : solT m es = solT m ds
  fix : es.contains 0 = true ∨ consB m.cons es = true
theorem prop_ok (hM : MOk m) : ∀ (k : Nat) {ds : List Int}, sumN ds = k → DOk m.doms.length ds → PropOk m ds (prop m ds) := by
  intro k
  induction k using Nat.strongRecOn with
  | _ k ih =>
    intro ds hk hd
    cases h0 : ds.contains 0 with
    | true =>
      rw [prop_0 h0, hd.l]
      have hz := zerosL_ok m.doms.length
      have hn := hM.n
      have hc : (zerosL m.doms.length).contains 0 = true := by
        rw [List.contains_iff_mem]; simp only [zerosL, List.mem_replicate]; exact ⟨by omega, trivial⟩
      exact ⟨hz, hd.l ▸ zerosL_sub ds, by unfold solT; rw [tupL_0 h0, tupL_0 hc], .inl hc⟩
    | false =>
      by_cases e : filtA m ds = ds
      · rw [prop_fix h0 e]; exact ⟨hd, SubD.refl _, rfl, .inr ((filtA_fix hM hd).1 e)⟩
      · rw [← prop_step hM hd h0 e]
        have hf := filtA_ok hM hd
        have := ih _ (hk ▸ filtA_lt hM hd e) rfl hf.1
        exact ⟨this.ok, this.sub.trans hf.2, this.sol.trans (solT_filtC hM (fun _ h => h) hd), this.fix⟩
theorem propOk (hM : MOk m) {ds : List Int} (hd : DOk m.doms.length ds) : PropOk m ds (prop m ds) := prop_ok hM _ rfl hd
/-! ### All solutions -/
def sols (m : Mod) : List (List Int) := solT m m.doms
def inDomB (m : Mod) (x : List Int) : Bool := (List.range x.length).all (fun i => hasB (m.doms.getD i 0) (x.getD i 0))
def isSolB (m : Mod) (x : List Int) : Bool := inDomB m x && metB m x
theorem sols_prop (hM : MOk m) : (tupL (prop m m.doms)).filter (isSolB m) = sols m := by
  have hp := propOk hM hM.dok
  unfold sols
  rw [← hp.sol]
  unfold solT
  refine List.filter_congr fun x hx => ?_
  have hb := mem_tupL.1 hx
  have : inDomB m x = true := List.all_eq_true.2 fun i hi => by
    have hi : i < x.length := List.mem_range.1 hi
    have h1 := hb.2 i (by rw [← hb.1]; exact hi)
    exact hp.sub.2 i (by rw [← hp.sub.1, ← hb.1]; exact hi) _ (valsI_mem h1) (mem_valsI.1 h1).2
  unfold isSolB; rw [this]; rfl
/-! Branching. -/
theorem tupL_one {ds : List Int} (h : ∀ i, i < ds.length → (valsI (ds.getD i 0)).length = 1) : tupL ds = [ds.map (fun d => (valsI d).getD 0 0)] := by
  induction ds with
  | nil => rfl
  | cons d ds ih =>
    have h0 := h 0 (by simp)
    obtain ⟨w, hw⟩ := List.length_eq_one_iff.1 (show (valsI d).length = 1 by simpa using h0)
    have := ih (fun i hi => by simpa using h (i + 1) (by simpa using hi))
    simp [tupL, hw, this]
theorem tupL_split : ∀ {ds : List Int} {i : Nat}, i < ds.length → (∀ j, j < i → (valsI (ds.getD j 0)).length = 1) → tupL ds = (valsI (ds.getD i 0)).flatMap (fun v => tupL (ds.set i (ishl 1 v)))
  | [], i, h, _ => absurd h (Nat.not_lt_zero _)
  | d :: ds, 0, _, _ => by
    have e : ∀ v ∈ valsI d, (tupL ds).map (fun r => v :: r) = tupL (ishl 1 v :: ds) := fun v hv => by
      simp [tupL, valsI_one (valsI_mem hv)]
    simp only [List.getD_cons_zero, List.set_cons_zero]
    rw [tupL]
    have : ∀ xs : List Int, (∀ v ∈ xs, v ∈ valsI d) → xs.flatMap (fun v => (tupL ds).map (fun r => v :: r)) = xs.flatMap (fun v => tupL (ishl 1 v :: ds)) := fun xs => by
      induction xs with
      | nil => intro _; rfl
      | cons x xs ih => intro h; rw [List.flatMap_cons, List.flatMap_cons, e x (h x (.head _)), ih (fun v hv => h v (.tail _ hv))]
    exact this _ (fun _ h => h)
  | d :: ds, i + 1, h, h1 => by
    have h0 := h1 0 (by omega)
    obtain ⟨w, hw⟩ := List.length_eq_one_iff.1 (show (valsI d).length = 1 by simpa using h0)
    have ih := tupL_split (ds := ds) (i := i) (by simpa using h) (fun j hj => by simpa using h1 (j + 1) (by omega))
    simp only [List.getD_cons_succ, List.set_cons_succ, tupL, hw]
    rw [ih]
    simp [List.map_flatMap]
theorem filter_flat {A B : Type} (f : A → List B) (p : B → Bool) : ∀ xs : List A, (xs.flatMap f).filter p = xs.flatMap (fun x => (f x).filter p)
  | [] => rfl
  | x :: xs => by rw [List.flatMap_cons, List.filter_append, filter_flat f p xs, List.flatMap_cons]
theorem solT_split {i : Nat} (hi : i < ds.length) (h : ∀ j, j < i → (valsI (ds.getD j 0)).length = 1) : solT m ds = (valsI (ds.getD i 0)).flatMap (fun v => solT m (ds.set i (ishl 1 v))) := by
  unfold solT
  rw [tupL_split hi h, filter_flat]
def firstL (ds : List Int) : List Int := ds.map (fun d => (valsI d).getD 0 0)
theorem solT_one (hM : MOk m) (hd : DOk m.doms.length ds) (hf : consB m.cons ds = true) (h : ∀ i, i < ds.length → (valsI (ds.getD i 0)).length = 1) : solT m ds = [firstL ds] := by
  unfold solT
  rw [tupL_one h]
  have hb : Box ds (firstL ds) := mem_tupL.1 (by rw [tupL_one h]; exact .head _)
  have hm : metB m (firstL ds) = true := List.all_eq_true.2 fun c hc => by
    have e : filtL c ds = ds := by simpa using List.all_eq_true.1 hf c hc
    exact filt_sat (hM.cons c hc) hd.l e hb (fun i hi => h i (by rw [hd.l]; exact hi))
  show List.filter (metB m) [firstL ds] = _
  rw [List.filter_cons, if_pos hm]; rfl
theorem set_ok {i : Nat} {v : Int} (hd : DOk m.doms.length ds) (hv : 0 ≤ v ∧ v ≤ 5) : DOk m.doms.length (ds.set i (ishl 1 v)) := ⟨by rw [List.length_set]; exact hd.l, fun d hm => by
  rcases List.mem_or_eq_of_mem_set hm with h | h
  · exact hd.d d h
  · have := shl_le hv; omega⟩
theorem set_lt {i : Nat} {v : Int} (hd : DOk m.doms.length ds) (hi : i < ds.length) (hv : v ∈ valsI (ds.getD i 0)) (h1 : (valsI (ds.getD i 0)).length ≠ 1) : sumN (ds.set i (ishl 1 v)) < sumN ds := by
  have h2 := shl_lt (hd.d.at hi) hv h1
  have h3 := shl_le (valsI_mem hv)
  refine sumN_lt (by simp) (fun d hm => ((set_ok hd (valsI_mem hv)).d d hm).1) (fun j hj => ?_) (fun e => ?_)
  · by_cases e : i = j
    · subst e
      rw [List.getD_eq_getElem?_getD, List.getElem?_set_self hi]
      simp only [Option.getD_some]; omega
    · rw [List.getD_eq_getElem?_getD, List.getElem?_set_ne e, ← List.getD_eq_getElem?_getD]; exact Int.le_refl _
  · have : (ds.set i (ishl 1 v)).getD i 0 = ishl 1 v := by rw [List.getD_eq_getElem?_getD, List.getElem?_set_self hi]; rfl
    rw [e] at this; omega
end props
/-! ### What the walks ask -/
def inDomTo (m : Mod) (x : List Int) (k : Nat) : Bool := (List.range k).all (fun i => hasB (m.doms.getD i 0) (x.getD i 0))
theorem inDom_step {m : Mod} {x : List Int} {k : Nat} (h : inDomTo m x k = true) (c : (!(hasB (m.doms.getD k 0) (x.getD k 0))) = false) : inDomTo m x (k + 1) = true := by
  simp only [inDomTo, List.range_succ, List.all_append, List.all_cons, List.all_nil, Bool.and_true] at *
  rw [h]; simpa using c
theorem inDom_no {m : Mod} {x : List Int} {k : Nat} (hk : k < x.length) (c : (!(hasB (m.doms.getD k 0) (x.getD k 0))) = true) : false = isSolB m x := by
  have : inDomB m x = false := by
    cases h : inDomB m x with
    | false => rfl
    | true => have := List.all_eq_true.1 h k (List.mem_range.2 hk); rw [this] at c; simp at c
  unfold isSolB; rw [this]; rfl
theorem inDom_yes {m : Mod} {x : List Int} {k : Nat} (h : inDomTo m x k = true) (hk : k = x.length) {b : Bool} (e : b = metB m x) : b = isSolB m x := by
  subst hk
  have : inDomB m x = true := h
  unfold isSolB; rw [this, e]; rfl
theorem supp_nil (c : Con) (j : Nat) : supp c [] j = 0 := by simp [supp, maskP]
theorem suppV_0 (c : Con) : suppV c [] = List.replicate c.vars.length 0 := by
  refine List.ext_getElem (by simp [suppV]) fun i h1 h2 => ?_
  simp [suppV, supp_nil]
theorem word_dom {c : Con} {ds : List Int} (hC : ConOk c ds.length) (hd : DomV ds) : ∀ d ∈ wordL c.vars ds, (0 : Int) ≤ d ∧ d ≤ 63 := fun d hm => by
  simp only [wordL, List.mem_map] at hm
  obtain ⟨v, hv, rfl⟩ := hm
  have := hC.vars v hv
  exact hd.at (by omega)
theorem tup_sat {c : Con} {n : Nat} {ds t : List Int} (hC : ConOk c n) (hl : ds.length = n) (h : t ∈ tupL (wordL c.vars ds)) : SatOk c t := by
  have hb := mem_tupL.1 h
  have ho := hC.one
  have hf := hC.v
  simp only [validConB, Bool.and_eq_true] at hf
  have h1 := hb.1
  simp [wordL] at h1
  exact ⟨hf.2, h1.symm, by omega, by omega, hb.vals⟩
theorem supp_stepT {c : Con} {T : List (List Int)} {t left : List Int} {k : Nat} (h : left = suppM c T t k) (hS : SatOk c t) (hk : t.length ≤ k) : left = suppV c (T ++ [t]) := by
  rw [h]; exact suppM_all c T t (by rw [hS.len]; exact hk)
theorem suppM_stepO {c : Con} {T : List (List Int)} {t : List Int} {k : Nat} (hs : satB c t = true) (hS : SatOk c t) (hk : k < t.length) : (suppM c T t k).set k (ior ((suppM c T t k).getD k 0) (ishl 1 (t.getD k 0))) = suppM c T t (k + 1) := by
  have h1 := hS.len
  rw [suppM_at (by omega), supp_or hs (hS.val.at hk)]
  exact suppM_set (by omega) rfl
theorem filtC_step {cs : List Con} {k : Nat} {ds : List Int} (h : k < cs.length) : filtC (cs.take (k + 1)) ds = filtL (cs.getD k nilCon) (filtC (cs.take k) ds) := by
  unfold filtC
  rw [take_succ_getD nilCon h, List.foldl_append]; rfl
theorem filtC_at {m : Mod} {ds xs : List Int} {k : Nat} (hM : MOk m) (hd : DOk m.doms.length ds) (e : xs = filtC (m.cons.take k) ds) : DOk m.doms.length xs := by
  subst e
  exact (filtC_ok (fun c hc => hM.cons c (List.mem_of_mem_take hc)) hd).1
theorem tupL_max : ∀ ds : List Int, (tupL ds).length ≤ 6 ^ ds.length
  | [] => by simp [tupL]
  | d :: ds => by
    rw [tup_len, List.length_cons, Nat.pow_succ]
    exact Nat.mul_le_mul (tupL_max ds) (membersTo_len d 6)
theorem tupL_few {ds : List Int} (h : ds.length ≤ 4) : (tupL ds).length ≤ 1296 :=
  Nat.le_trans (tupL_max ds) (Nat.pow_le_pow_right (n := 6) (by omega) h)
theorem sol_room {n i : Nat} {ds : List Int} {out : List (List Int)} {p : List Int → Bool} (hd : DOk n ds) (hn : n ≤ 4) (e : out = ((tupL ds).take i).filter p) (hk : i < (tupL ds).length) : out.length < 1296 := by
  have h1 := tupL_few (ds := ds) (by have := hd.l; omega)
  have h2 := List.length_filter_le p ((tupL ds).take i)
  rw [← e, List.length_take] at h2
  omega
theorem filter_oneT {A : Type} {p : A → Bool} {x : A} (h : p x = true) : [x].filter p = [x] := by rw [List.filter_cons, if_pos h]; rfl
theorem filter_oneF {A : Type} {p : A → Bool} {x : A} (h : p x = false) : [x].filter p = [] := by rw [List.filter_cons, h]; rfl
theorem solT_few {m : Mod} {ds : List Int} (h : ds.length ≤ 4) : (solT m ds).length ≤ 1296 := Nat.le_trans (List.length_filter_le _ _) (tupL_few h)
/-! The reference's walk over the tuples. -/
/-- The tuples of w that begin with p (i values). -/
def extP (w : List Int) (i : Nat) (p : List Int) : List (List Int) := (tupL (w.drop i)).map (fun r => p ++ r)
theorem extP_base {w p : List Int} {i : Nat} (h : w.length ≤ i) : extP w i p = [p] := by simp [extP, List.drop_eq_nil_of_le h, tupL]
theorem extP_split {w p : List Int} {i : Nat} (h : i < w.length) : extP w i p = (valsI (w.getD i 0)).flatMap (fun v => extP w (i + 1) (p ++ [v])) := by
  unfold extP
  rw [List.drop_eq_getElem_cons h, tupL, List.map_flatMap, show w[i] = w.getD i 0 from by simp [List.getD, h]]
  simp [Function.comp_def]
theorem extP_all (w : List Int) : extP w 0 [] = tupL w := by simp [extP]
theorem take_set_succ {x p : List Int} {i : Nat} {v : Int} (h : x.take i = p) (hi : i < x.length) : (x.set i v).take (i + 1) = p ++ [v] := by
  rw [take_succ_getD 0 (by simpa using hi), List.take_set_of_le (Nat.le_refl _), h]
  congr 2
  rw [List.getD_eq_getElem?_getD, List.getElem?_set_self hi]; rfl
theorem take_of_succ {x p : List Int} {i : Nat} {v : Int} (h : x.take (i + 1) = p ++ [v]) (hp : p.length = i) : x.take i = p := by
  have : (x.take (i + 1)).take i = x.take i := by rw [List.take_take]; congr 1; omega
  rw [← this, h, List.take_append_of_le_length (by omega), List.take_of_length_le (by omega)]
theorem sat_of {c : Con} {n : Nat} {t : List Int} (hC : ConOk c n) (h1 : t.length = c.vars.length) (hv : Vals t) : SatOk c t := by
  have ho := hC.one
  have hf := hC.v
  simp only [validConB, Bool.and_eq_true] at hf
  exact ⟨hf.2, h1.symm, by omega, by omega, hv⟩
def extTo (w : List Int) (i : Nat) (p : List Int) (k : Nat) : List (List Int) := (membersTo (w.getD i 0) k).flatMap (fun v => extP w (i + 1) (p ++ [v]))
theorem extTo_0 (w : List Int) (i : Nat) (p : List Int) : extTo w i p 0 = [] := rfl
theorem extTo_T {w p : List Int} {i k : Nat} (h : hasB (w.getD i 0) (k : Int) = true) : extTo w i p k ++ extP w (i + 1) (p ++ [(k : Int)]) = extTo w i p (k + 1) := by
  unfold extTo; rw [← members_stepT rfl h]; simp
theorem extTo_F {w p : List Int} {i k : Nat} (h : hasB (w.getD i 0) (k : Int) = false) : extTo w i p k = extTo w i p (k + 1) := by
  unfold extTo; rw [← members_stepF rfl h]
theorem extTo_6 {w p : List Int} {i k : Nat} (h : i < w.length) (hk : k = 6) : extTo w i p k = extP w i p := by subst hk; exact (extP_split h).symm
theorem supp_stepS {c : Con} {T : List (List Int)} {t : List Int} {k : Nat} (hs : satB c t = true) (hS : SatOk c t) (hk : k < t.length) (b : (!(withinB (t.getD k 0) 0 5 && hasB ((suppM c T t k).getD k 0) (t.getD k 0))) = true) :
    (suppM c T t k).set k ((suppM c T t k).getD k 0 + ishl 1 (t.getD k 0)) = suppM c T t (k + 1) := by
  have h1 := hS.len
  have hv := hS.val.at hk
  rw [suppM_at (by omega)] at b ⊢
  rw [show withinB (t.getD k 0) 0 5 = true from withinB_iff.2 hv] at b
  exact suppM_set (by omega) (supp_addF hs hv (by simpa using b))
theorem supp_stepN {c : Con} {T : List (List Int)} {t : List Int} {k : Nat} (hs : satB c t = true) (hS : SatOk c t) (hk : k < t.length) (b : (!(withinB (t.getD k 0) 0 5 && hasB ((suppM c T t k).getD k 0) (t.getD k 0))) = false) :
    suppM c T t k = suppM c T t (k + 1) := by
  have h1 := hS.len
  have hv := hS.val.at hk
  rw [suppM_at (by omega)] at b
  rw [show withinB (t.getD k 0) 0 5 = true from withinB_iff.2 hv] at b
  exact suppM_same (by omega) (supp_addT hs hv (by simpa using b))
theorem dh_iff {d : Int} {k : Nat} (hk : k < 6) : (withinB (k : Int) 0 5 && hasB d (k : Int)) = hasB d (k : Int) := by
  rw [show withinB (k : Int) 0 5 = true from withinB_iff.2 (by omega)]; rfl
theorem supp_addle {c : Con} {T : List (List Int)} {t : List Int} {k : Nat} (hS : SatOk c t) (hk : k < t.length) : 0 ≤ (suppM c T t k).getD k 0 ∧ (suppM c T t k).getD k 0 ≤ 63 := by
  rw [suppM_at (by have := hS.len; omega)]; exact maskP_in _
/-! The reference's fixpoint. -/
theorem cons_no {cs : List Con} {ds : List Int} {k : Nat} (hk : k < cs.length) (h : (!(decide (filtL (cs.getD k nilCon) ds = ds))) = true) : false = consB cs ds :=
  (all_false (d := nilCon) hk (by simpa using h)).symm
theorem cons_step {cs : List Con} {ds : List Int} {k : Nat} (hk : k < cs.length) (hp : (cs.take k).all (fun c => decide (filtL c ds = ds)) = true) (h : (!(decide (filtL (cs.getD k nilCon) ds = ds))) = false) : (cs.take (k + 1)).all (fun c => decide (filtL c ds = ds)) = true :=
  all_take_step (d := nilCon) hk hp (by simpa using h)
theorem fix_go {m : Mod} {xs : List Int} (hM : MOk m) (hD : DOk m.doms.length xs) (h : (!(consB m.cons xs) && !(xs.contains 0)) = true) : filtA m xs ≠ xs ∧ xs.contains 0 = false := by
  simp only [Bool.and_eq_true, Bool.not_eq_true'] at h
  exact ⟨fun e => by have := (filtA_fix hM hD).1 e; rw [this] at h; simp at h, h.2⟩
theorem fix_end {m : Mod} {xs : List Int} (hM : MOk m) (hD : DOk m.doms.length xs) (h : (!(consB m.cons xs) && !(xs.contains 0)) = false) (h0 : xs.contains 0 = false) : prop m xs = xs := by
  rw [h0] at h
  exact prop_fix h0 ((filtA_fix hM hD).2 (by simpa using h))
/-! Branching, as the reference does it. -/
theorem solT_prop {m : Mod} {ds : List Int} (hM : MOk m) (hd : DOk m.doms.length ds) : solT m (prop m ds) = solT m ds := (propOk hM hd).sol
theorem solT_empty {m : Mod} {ds : List Int} (hM : MOk m) (hd : DOk m.doms.length ds) (h : (prop m ds).contains 0 = true) : solT m ds = [] := by
  rw [← solT_prop hM hd]; unfold solT; rw [tupL_0 h]; rfl
theorem solT_leaf {m : Mod} {ds : List Int} (hM : MOk m) (hd : DOk m.doms.length ds) (h0 : (prop m ds).contains 0 = false) (h : ∀ i, i < (prop m ds).length → (valsI ((prop m ds).getD i 0)).length = 1) : solT m ds = [firstL (prop m ds)] := by
  have hp := propOk hM hd
  rw [← hp.sol]
  exact solT_one hM hp.ok (hp.fix.resolve_left (by rw [h0]; simp)) h
def brTo (m : Mod) (ds : List Int) (i k : Nat) : List (List Int) := ((valsI (ds.getD i 0)).take k).flatMap (fun v => solT m (ds.set i (ishl 1 v)))
theorem brTo_0 (m : Mod) (ds : List Int) (i : Nat) : brTo m ds i 0 = [] := rfl
theorem brTo_succ {m : Mod} {ds : List Int} {i k : Nat} (h : k < (valsI (ds.getD i 0)).length) : brTo m ds i (k + 1) = brTo m ds i k ++ solT m (ds.set i (ishl 1 ((valsI (ds.getD i 0)).getD k 0))) := by
  unfold brTo; rw [take_succ_getD 0 h, List.flatMap_append]; simp
theorem brTo_all {m : Mod} {ds : List Int} {i k : Nat} (hi : i < ds.length) (h : ∀ j, j < i → (valsI (ds.getD j 0)).length = 1) (hk : (valsI (ds.getD i 0)).length ≤ k) : brTo m ds i k = solT m ds := by
  unfold brTo; rw [List.take_of_length_le hk, ← solT_split hi h]
theorem brTo_le (m : Mod) (ds : List Int) (i k : Nat) : (brTo m ds i k).length ≤ ((valsI (ds.getD i 0)).flatMap (fun v => solT m (ds.set i (ishl 1 v)))).length := by
  unfold brTo
  generalize valsI (ds.getD i 0) = xs
  have : xs.flatMap (fun v => solT m (ds.set i (ishl 1 v))) = (xs.take k).flatMap (fun v => solT m (ds.set i (ishl 1 v))) ++ (xs.drop k).flatMap (fun v => solT m (ds.set i (ishl 1 v))) := by
    rw [← List.flatMap_append, List.take_append_drop]
  rw [this, List.length_append]; omega
theorem brTo_le' {m : Mod} {ds : List Int} {i : Nat} (hi : i < ds.length) (h : ∀ j, j < i → (valsI (ds.getD j 0)).length = 1) (k : Nat) : (brTo m ds i k).length ≤ (solT m ds).length := by
  rw [solT_split hi h]; exact brTo_le m ds i k
theorem firstL_take {ds : List Int} {k : Nat} (h : k < ds.length) : firstL (ds.take k) ++ [(valsI (ds.getD k 0)).getD 0 0] = firstL (ds.take (k + 1)) := by
  unfold firstL; rw [take_succ_getD 0 h, List.map_append]; rfl
theorem br_exit {a : Nat} {n : Nat} {l : Int} (h : (decide ((a : Int) < (n : Int)) && decide (l = 1)) = false) : ¬ a < n ∨ l ≠ 1 := by
  by_cases h1 : a < n
  · right; intro e; subst e; simp at h; omega
  · exact .inl h1
theorem br_go {a : Nat} {n : Nat} {l : Int} (h : (decide ((a : Int) < (n : Int)) && decide (l = 1)) = true) : a < n ∧ l = 1 := by
  simp only [Bool.and_eq_true, decide_eq_true_eq] at h; exact ⟨by omega, h.2⟩
theorem br_lt {a b : Nat} {x y : Nat} (h : (decide ((a : Int) < (b : Int)) && decide ((x : Int) < (y : Int))) = true) : a < b ∧ x < y := by
  simp only [Bool.and_eq_true, decide_eq_true_eq] at h; omega
theorem br_out {a b : Nat} {x y : Nat} (h : (decide ((a : Int) < (b : Int)) && decide ((x : Int) < (y : Int))) = false) (hx : x < y) : b ≤ a := by
  have e : decide ((x : Int) < (y : Int)) = true := decide_eq_true (by omega)
  rw [e, Bool.and_true, decide_eq_false_iff_not] at h; omega
end
section
theorem vals_of {x : List Int} (h : allInB x 0 5 = true) : Vals x := fun v hv => by
  simp only [allInB, List.all_eq_true] at h
  exact withinB_iff.1 (h v hv)
theorem allIn_of {x : List Int} (h : Vals x) : allInB x 0 5 = true := by
  simp only [allInB, List.all_eq_true]; exact fun v hv => withinB_iff.2 (h v hv)
theorem sols_few {m : Mod} (h : MOk m) : (sols m).length ≤ 1296 := solT_few h.n.2
section at_
variable {m : Mod} {r : Int}
end at_
theorem sols_len {m : Mod} {x : List Int} (h : x ∈ sols m) : x.length = m.doms.length := (mem_tupL.1 (List.mem_filter.1 (show x ∈ (tupL m.doms).filter (metB m) from h)).1).1
theorem sols_vals {m : Mod} {x : List Int} (h : x ∈ sols m) : Vals x := (mem_tupL.1 (List.mem_filter.1 (show x ∈ (tupL m.doms).filter (metB m) from h)).1).vals
theorem sols_ne {m : Mod} (hM : MOk m) : ∀ x ∈ sols m, x ≠ [] := fun x hx e => by
  have h1 := sols_len hx; rw [e] at h1; have := hM.n; simp at h1; omega
end
section
theorem sols_mem {m : Mod} {x : List Int} : x ∈ sols m ↔ Box m.doms x ∧ metB m x = true := by
  unfold sols solT; rw [List.mem_filter, mem_tupL]
/-! Formulas with one quantifier for all. -/
end
section
/-! The values in a list of tuples. -/
end
section
/-! Entailment. -/
end
section
theorem cloneC_ok {Hxs : Hp} {vxs : Value} (xs : List Con) (hb : xs.length ≤ 1000) (hxs : Cons Hxs vxs xs) : Spec Tryz.prog 150 [vxs] [Hxs] ((fun Hq vq => OwnL 88 5 Hq Hxs ConV vq xs)) := by
 refine spec_of Tryz.func150 rfl rfl rfl (fun B => ?_)
 refine cS (cr (sg rfl (ln (qc (cS (cS (cr (mv rfl (kl_eqlnilX rfl rfl ‹_› (fun bn nn nx => ?_))))))))))
 refine ln (qc (cd9 rfl (fun c3 => ?_) (fun c3 => ?_)))
 ·have c3r := c3
  try simp only [smpE] at c3
  refine cS (cr (sg rfl (ln (qc (rt ?_)))))
  exact kq_ret rfl rfl noHp (fr_no _) (by rw [nn ‹_›]; exact OwnL.nil)
 ·have c3r := c3
  try simp only [smpE] at c3
  refine sk (qc (cS (cr (kl_bs0k (K := Hxs) ConV rfl (fun v4 H5 f6 o7 => ?_)))))
  refine mv rfl (kl_apS rfl rfl o7 ‹_› (fun _ _ h => h) (by simp; omega) (by decide) (fun v8 H9 o10 f11 => ?_))
  have f12 := f11 B f6 (Nat.le_refl _)
  refine sg rfl (ln (qc (rt ?_)))
  exact kq_ret rfl rfl H9 f12 o10
theorem copyConI_ok {Hcv : Hp} {vcv : Value} {Hca : Hp} {vca : Value} {Hcr : Hp} {vcr : Value} (c : Con) (hc : ConSm 100 c) (hcv : Ints Hcv vcv c.vars) (hca : Ints Hca vca c.args) (hcr : Rows Hcr vcr c.rows) : Spec Tryz.prog 177 [.agg #[.int .i64 c.kind, vcv, vca, .int .i64 c.bound, vcr]] [Hcv, Hca, Hcr] (fun Hq vq => ConR Hq vq c) := by
 have h1 := hc.v1
 have h2 := hc.v
 have h3 := hc.a
 have h4 := hc.r
 have h5 := hc.rr
 refine spec_of Tryz.func177 rfl rfl rfl (fun B => ?_)
 refine cS (cr (kl_box rfl rfl (fun p1 H2 f3 a4 => ?_)))
 refine kl_alloc (cs := [.int .i64 (0 : Int), .slice none 0 0, .slice none 0 0, .int .i64 (0 : Int), .slice none 0 0]) rfl (fun b5 hb6 => ?_)
 refine ln (qc (cS (cr (fd9 rfl ‹_› (fun p7 a8 => ?_)))))
 refine ld rfl ‹_› (le9 rfl ‹_› (fun l9 => ?_))
 refine kl_mkL0 (R := RowV) rfl rfl (by omega) (by omega) (by decide) (fun v10 H11 f12 o13 => ?_)
 refine sg rfl (ln (qc (cS (cS (cr (fd9 rfl ‹_› (fun p14 a15 => ?_)))))))
 refine ld rfl ‹_› (le9 rfl ‹_› (fun l16 => ?_))
 refine mv rfl (ln (qc (bl (kc_loopK (A := Nat × List (List Int) × Value × Hp × Hp) (fun zz => (zz.1 ≤ c.rows.length) ∧ (zz.2.1 = c.rows.take zz.1) ∧ Fr B zz.2.2.2.2 ∧ OwnL 23 1 zz.2.2.2.1 zz.2.2.2.2 RowV zz.2.2.1 zz.2.1 ∧ Fr B zz.2.2.2.1) (fun zz => c.rows.length - zz.1) (fun zz => zz.2.2.2.2) (fun zz => [zz.2.2.2.1, bxS b5 [.int .i64 (0 : Int), .slice none 0 0, .slice none 0 0, .int .i64 (0 : Int), .slice none 0 0] 88]) (fun zz => [(13, .int .i64 (zz.1 : Int)), (3, zz.2.2.1)]) (0, ([]), v10, H11, noHp) (pk [1, 2, 11, 12] rfl) (pk [13, 3] rfl) rfl ⟨Nat.zero_le _, rfl, (fr_no _), o13, f12⟩ ?_))))
 rintro ⟨k, out, v22, H19, K23⟩ hJ25
 obtain ⟨hk17, hi18, f24, o20, f21⟩ : (k ≤ c.rows.length) ∧ (out = c.rows.take k) ∧ Fr B K23 ∧ OwnL 23 1 H19 K23 RowV v22 out ∧ Fr B H19 := hJ25
 change KC _ _ (K23 :: _) [H19, bxS b5 [.int .i64 (0 : Int), .slice none 0 0, .slice none 0 0, .int .i64 (0 : Int), .slice none 0 0] 88] _ ([(13, .int .i64 (k : Int)), (3, v22)] ++ _)
 refine cS (cr (ls9 rfl rfl ?_))
 refine ln (qc (cS (ci9 rfl (fun c26 => ?_) (fun c26 => ?_))))
 ·refine sk (qc (cS (bl (cS (cr (kl_inS rfl rfl ‹_› (by omega) (fun p27 u29 h30 a28 => ?_)))))))
  refine ld rfl ‹_› (sg rfl (ln (qc (cr (mv rfl (mv rfl (kl_call rfl rfl (copied_ok (c.rows.getD k []) (by first | omega | (have h6 := h5 _ (getD_mem (d := []) (by omega : k < c.rows.length)); omega)) ‹_›) (fun v31 H32 f33 o34 => ?_))))))))
  have h35 := OwnL.ints o34
  refine bs9 rfl rfl rfl (by decide) (ca (by first | exact Sl.cells ‹_› | exact OwnL.cells ‹_›) ca_nil) (fun v36 H37 f38 r39 s40 => ?_)
  refine cm9 K23 H32 (fun c41 => ?_)
  have o42 := OwnL.mono (K' := orHp K23 H32) o20 orL
  refine aL9 (c.rows.getD k []) rfl rfl o42 ‹_› ⟨_, rfl, Sl.mono ‹_› (orC c41) (fun _ _ h => h)⟩ (oc (Sl.oneCell ‹_›) oc_nil) (by (have h9 := congrArg List.length hi18; simp at h9; omega)) (by decide) (fun v43 H44 o45 f46 => ?_)
  have f47 := f46 B f21 (Nat.le_refl _)
  refine sg rfl (ln (qc (cr (ic9 rfl rfl (by omega) ?_))))
  refine mv rfl (ln (tk [H44, bxS b5 [.int .i64 (0 : Int), .slice none 0 0, .slice none 0 0, .int .i64 (0 : Int), .slice none 0 0] 88] ?_))
  refine kq_roundK ((k + 1), (out ++ [(c.rows.getD k [])]), v43, H44, (orHp K23 H32)) (by omega) (⟨by omega, (by rw [hi18, take_succ_getD [] (by omega)]), (fr_or f24 f33), o45, f47⟩) (pk [13, 3] rfl) (pk [1, 2, 11, 12] rfl) rfl slr9
 ·refine ex9 (qc (cS (kc_tree (fun i => ([11, 12] : List Nat).contains i) [] (by kernel_rfl) ?_)))
  refine tq 0 nsl rfl (fd9 rfl ‹_› (fun p48 a49 => ?_))
  refine ln (qq (tq 1 nsl rfl (ld rfl ‹_› (ln (qq (tq 2 nsl rfl (fd9 rfl ‹_› (fun p50 a51 => ?_))))))))
  refine ln (qq (tq 3 nsl rfl (ld rfl ‹_› (ln (qq (tq 5 nsl rfl (fd9 rfl ‹_› (fun p52 a53 => ?_))))))))
  refine ln (qq (tq 6 nsl rfl (ld rfl ‹_› (ln (qq (tq 8 nsl rfl (fd9 rfl ‹_› (fun p54 a55 => ?_))))))))
  refine ln (qq (tq 9 nsl rfl (ld rfl ‹_› (ln (qq (tq 10 nsl rfl (mv rfl (ln (qq (ta 4 rfl (kl_call rfl rfl (copied_ok c.vars (by first | omega | (have h6 := h5 _ (getD_mem (d := []) (by omega : k < c.rows.length)); omega)) ‹_›) (fun v56 H57 f58 o59 => ?_))))))))))))
  have h60 := OwnL.ints o59
  refine ln (qa nsl (ta 7 rfl (kl_call rfl rfl (copied_ok c.args (by first | omega | (have h6 := h5 _ (getD_mem (d := []) (by omega : k < c.rows.length)); omega)) ‹_›) (fun v61 H62 f63 o64 => ?_))))
  have h65 := OwnL.ints o64
  refine ln (qa nsl (ta 11 rfl (kl_bd rfl (cp rfl (cp (Sl.cells ‹_›) (cp (Sl.cells ‹_›) (cp rfl (cp (OwnL.cells ‹_›) cp_nil))))) rfl ?_)))
  refine ln (qx rfl (ta 12 rfl (kl_stW (us := [.int .i64 c.kind, v56, v61, .int .i64 c.bound, v22]) rfl rfl rfl rfl (oc rfl (oc (Sl.oneCell ‹_›) (oc (Sl.oneCell ‹_›) (oc rfl (oc (OwnL.oneCell ‹_›) oc_nil))))) rfl ?_)))
  refine cg [H19, bxS b5 [.int .i64 c.kind, v56, v61, .int .i64 c.bound, v22] 88] rfl ?_
  refine ln (qx rfl (kt_end (by kernel_rfl) ?_))
  refine qc (rt (kq_frz H19 ?_))
  refine kq_cmp H19 K23 (fun c66 => ?_)
  refine kq_cmp H62 (orHp H19 K23) (fun c67 => ?_)
  refine kq_cmp H57 (orHp H62 (orHp H19 K23)) (fun c68 => ?_)
  exact kq_retC rfl rfl rfl (orHp H57 (orHp H62 (orHp H19 K23))) (fr_or f58 (fr_or f63 (fr_or f21 f24))) ⟨_, rfl, _, _, _, rfl, (Sl.mono ‹_› (fun b o h => orL b o h) (fun _ _ h => h)), (Sl.mono ‹_› (fun b o h => orC c68 b o (orL b o h)) (fun _ _ h => h)), (by have e9 : out = c.rows := (by rw [hi18, List.take_of_length_le (by omega)]); rw [← e9]; exact (Rows.mono' (OwnL.rowsK o20 c66) (fun b o h => orC c68 b o (orC c67 b o h))))⟩
theorem copyModI_ok {Hmd : Hp} {vmd : Value} {Hmc : Hp} {vmc : Value} (m : Mod) (hm : ModSm 100 m) (hmd : Ints Hmd vmd m.doms) (hmc : Cons Hmc vmc m.cons) : Spec Tryz.prog 151 [.agg #[vmd, vmc]] [Hmd, Hmc] (fun Hq vq => ModR Hq vq m) := by
 have h1 := hm.d1
 have h2 := hm.d
 have h3 := hm.c
 have h4 := hm.cc
 refine spec_of Tryz.func151 rfl rfl rfl (fun B => ?_)
 refine cS (cr (kl_box rfl rfl (fun p1 H2 f3 a4 => ?_)))
 refine kl_alloc (cs := [.slice none 0 0, .slice none 0 0]) rfl (fun b5 hb6 => ?_)
 refine ln (qc (cS (kc_tree (fun i => ([7, 9] : List Nat).contains i) [] (by kernel_rfl) ?_)))
 refine tq 0 nsl rfl (fd9 rfl ‹_› (fun p7 a8 => ?_))
 refine ln (qq (tq 1 nsl rfl (ld rfl ‹_› (ln (qq (tq 3 nsl rfl (fd9 rfl ‹_› (fun p9 a10 => ?_))))))))
 refine ln (qq (tq 4 nsl rfl (ld rfl ‹_› (ln (qq (tq 5 nsl rfl (le9 rfl ‹_› (fun l11 => ?_))))))))
 refine ln (qq (kt_c 2 6 8 rfl rfl rfl (by kernel_rfl) ?_ ?_ ?_))
 ·refine kl_call rfl rfl (copied_ok m.doms (by omega) ‹_›) (fun v12 H13 f14 o15 => ?_)
  have h16 := OwnL.ints o15
  refine ln (qa nsl (kt_b 6 8 rfl rfl (by kernel_rfl) ?_ ?_))
  ·refine kl_mkL0 (R := ConV) rfl rfl (by omega) (by omega) (by decide) (fun v17 H18 f19 o20 => ?_)
   refine ln (qa nsl (kt_b 7 8 rfl rfl (by kernel_rfl) ?_ ?_))
   ·refine kl_bd rfl (cp (Sl.cells ‹_›) (cp (OwnL.cells ‹_›) cp_nil)) rfl ?_
    refine ln (qx rfl (ta 8 rfl (kl_alloc (cs := [.slice none 0 0, .slice none 0 0]) rfl (fun b21 hb22 => ?_))))
    refine ln (qa nsl (ta 9 rfl (kl_stW (us := [v12, v17]) rfl rfl rfl rfl (oc (Sl.oneCell ‹_›) (oc (OwnL.oneCell ‹_›) oc_nil)) rfl ?_)))
    refine cg [bxS b21 [v12, v17] 26, H18, bxS b5 [.slice none 0 0, .slice none 0 0] 26] rfl ?_
    refine ln (qx rfl (kt_end (by kernel_rfl) ?_))
    refine qc (cS (cS (cr (fd9 rfl ‹_› (fun p23 a24 => ?_)))))
    refine ld rfl ‹_› (le9 rfl ‹_› (fun l25 => ?_))
    refine mv rfl (ln (qc (bl (kc_loopK (A := Nat × List Con × Value × Hp × Hp) (fun zz => (zz.1 ≤ m.cons.length) ∧ (zz.2.1 = m.cons.take zz.1) ∧ Fr B zz.2.2.2.2 ∧ OwnL 88 5 zz.2.2.2.1 zz.2.2.2.2 ConV zz.2.2.1 zz.2.1 ∧ Fr B zz.2.2.2.1) (fun zz => m.cons.length - zz.1) (fun zz => zz.2.2.2.2) (fun zz => [bxS b21 [v12, zz.2.2.1] 26, zz.2.2.2.1, bxS b5 [.slice none 0 0, .slice none 0 0] 26]) (fun zz => [(17, .int .i64 (zz.1 : Int))]) (0, ([]), v17, H18, noHp) (pk [2, 3, 15, 16] rfl) (pc 17 rfl pn) rfl ⟨Nat.zero_le _, rfl, (fr_no _), o20, f19⟩ ?_))))
    rintro ⟨k, out, v31, H28, K32⟩ hJ34
    obtain ⟨hk26, hi27, f33, o29, f30⟩ : (k ≤ m.cons.length) ∧ (out = m.cons.take k) ∧ Fr B K32 ∧ OwnL 88 5 H28 K32 ConV v31 out ∧ Fr B H28 := hJ34
    change KC _ _ (K32 :: _) [bxS b21 [v12, v31] 26, H28, bxS b5 [.slice none 0 0, .slice none 0 0] 26] _ ([(17, .int .i64 (k : Int))] ++ _)
    refine cS (cr (ls9 rfl rfl ?_))
    refine ln (qc (cS (ci9 rfl (fun c35 => ?_) (fun c35 => ?_))))
    ·refine sk (qc (cS (bl (cS (cr (kl_inC rfl rfl ‹_› (by omega) (fun p36 u38 u39 u40 h41 h42 h43 a37 => ?_)))))))
     refine kl_ldS rfl ‹_› rfl ?_
     refine kl_alloc (cs := [.int .i64 (0 : Int), .slice none 0 0, .slice none 0 0, .int .i64 (0 : Int), .slice none 0 0]) rfl (fun b44 hb45 => ?_)
     refine kl_stW (us := [.int .i64 ((m.cons.getD k nilCon).kind), u38, u39, .int .i64 ((m.cons.getD k nilCon).bound), u40]) rfl rfl rfl rfl (oc rfl (oc (Sl.oneCell ‹_›) (oc (Sl.oneCell ‹_›) (oc rfl (oc (Sl.oneCell ‹_›) oc_nil))))) rfl ?_
     refine cg [bxS b44 [.int .i64 ((m.cons.getD k nilCon).kind), u38, u39, .int .i64 ((m.cons.getD k nilCon).bound), u40] 88, bxS b21 [v12, v31] 26, H28, bxS b5 [.slice none 0 0, .slice none 0 0] 26] rfl ?_
     refine ln (qc (kc_tree (fun i => ([5, 7] : List Nat).contains i) [bxS b44 [.int .i64 ((m.cons.getD k nilCon).kind), u38, u39, .int .i64 ((m.cons.getD k nilCon).bound), u40] 88, bxS b21 [v12, v31] 26] (by kernel_rfl) ?_))
     refine kt_q 0 (.cons_cons _ (.cons_cons _ nsl)) rfl (by kernel_rfl) (fV rfl (ln (qq (kt_q 1 (.cons_cons _ (.cons_cons _ nsl)) rfl (by kernel_rfl) (ld rfl (at_box (T := 26) (cs := [v12, v31]) (off := 1) (fz := (0, 0))) (ln (qq (kt_q 2 (.cons_cons _ (.cons_cons _ nsl)) rfl (by kernel_rfl) (kl_ldS rfl (at_box (T := 88) (cs := [.int .i64 ((m.cons.getD k nilCon).kind), u38, u39, .int .i64 ((m.cons.getD k nilCon).bound), u40]) (off := 0) (fz := (0, 0))) rfl ?_)))))))))
     refine ln (qq (ta 3 rfl (kl_call rfl rfl (copyConI_ok (m.cons.getD k nilCon) (h4 _ (getD_mem (by omega))) ‹_› ‹_› ‹_›) (fun v46 H47 f48 h49 => ?_))))
     obtain ⟨_, rfl, h53⟩ := h49
     have h53' := h53
     obtain ⟨u50, u51, u52, rfl, h54, h55, h56⟩ := h53
     refine ln (qa (.cons_cons _ (.cons_cons _ nsl)) (ta 4 rfl (kl_bsK rfl (fun v57 H58 f59 r60 => ?_))))
     refine ln (qa (.cons_cons _ (.cons_cons _ nsl)) (ta 5 rfl (cm9 K32 H47 (fun c61 => ?_))))
     have o62 := OwnL.mono (K' := orHp K32 H47) o29 orL
     refine aL9 (m.cons.getD k nilCon) rfl rfl o62 r60 (RMono.mono (orC c61) ‹_›) (oc rfl (oc (Sl.oneCell ‹_›) (oc (Sl.oneCell ‹_›) (oc rfl (oc (Sl.oneCell ‹_›) oc_nil))))) (by (have h9 := congrArg List.length hi27; simp at h9; omega)) (by decide) (fun v63 H64 o65 f66 => ?_)
     have f67 := f66 B f30 (Nat.le_refl _)
     refine ln (qx rfl (kt_q 6 (.cons_cons _ (.cons_cons _ nsl)) rfl (by kernel_rfl) (fV rfl (ln (qq (ta 7 rfl (sB rfl rfl rfl (OwnL.oneCell ‹_›) (OwnL.cells ‹_›) ?_)))))))
     refine cg [bxS b44 [.int .i64 ((m.cons.getD k nilCon).kind), u38, u39, .int .i64 ((m.cons.getD k nilCon).bound), u40] 88, bxS b21 [v12, v63] 26, H64, bxS b5 [.slice none 0 0, .slice none 0 0] 26] rfl ?_
     refine ln (qx rfl (kt_end (by kernel_rfl) ?_))
     refine qc (cr (ic9 rfl rfl (by omega) ?_))
     refine mv rfl (ln (tk [bxS b21 [v12, v63] 26, H64, bxS b5 [.slice none 0 0, .slice none 0 0] 26] ?_))
     refine kq_roundK ((k + 1), (out ++ [(m.cons.getD k nilCon)]), v63, H64, (orHp K32 H47)) (by omega) (⟨by omega, (by rw [hi27, take_succ_getD nilCon (by omega)]), (fr_or f33 f48), o65, f67⟩) (pc 17 rfl pn) (pk [2, 3, 15, 16] rfl) rfl slr9
    ·refine ex9 (qc (cS (cr (kl_ldW rfl rfl (kl_stW (us := [v12, v31]) rfl rfl rfl rfl (oc (Sl.oneCell ‹_›) (oc (OwnL.oneCell ‹_›) oc_nil)) rfl ?_)))))
     refine cg [bxS b21 [v12, v31] 26, H28, bxS b5 [v12, v31] 26] rfl ?_
     refine ln (qc (rt (kq_frz H28 ?_)))
     refine kq_cmp H28 K32 (fun c68 => ?_)
     refine kq_cmp H13 (orHp H28 K32) (fun c69 => ?_)
     exact kq_retC rfl rfl rfl (orHp H13 (orHp H28 K32)) (fr_or f14 (fr_or f30 f33)) ⟨_, _, rfl, (Sl.mono ‹_› (fun b o h => orL b o h) (fun _ _ h => h)), (by have e9 : out = m.cons := (by rw [hi27, List.take_of_length_le (by omega)]); rw [← e9]; exact (Cons.mono' (OwnL.consK o29 c68) (fun b o h => orC c69 b o h)))⟩
   ·refine kl_alloc (cs := [.slice none 0 0, .slice none 0 0]) rfl (fun b70 hb71 => ?_)
    refine ln (qa nsl (ta 7 rfl (kl_bd rfl (cp (Sl.cells ‹_›) (cp (OwnL.cells ‹_›) cp_nil)) rfl ?_)))
    refine ln (qx rfl (ta 9 rfl (kl_stW (us := [v12, v17]) rfl rfl rfl rfl (oc (Sl.oneCell ‹_›) (oc (OwnL.oneCell ‹_›) oc_nil)) rfl ?_)))
    refine cg [bxS b70 [v12, v17] 26, H18, bxS b5 [.slice none 0 0, .slice none 0 0] 26] rfl ?_
    refine ln (qx rfl (kt_end (by kernel_rfl) ?_))
    refine qc (cS (cS (cr (fd9 rfl ‹_› (fun p72 a73 => ?_)))))
    refine ld rfl ‹_› (le9 rfl ‹_› (fun l74 => ?_))
    refine mv rfl (ln (qc (bl (kc_loopK (A := Nat × List Con × Value × Hp × Hp) (fun zz => (zz.1 ≤ m.cons.length) ∧ (zz.2.1 = m.cons.take zz.1) ∧ Fr B zz.2.2.2.2 ∧ OwnL 88 5 zz.2.2.2.1 zz.2.2.2.2 ConV zz.2.2.1 zz.2.1 ∧ Fr B zz.2.2.2.1) (fun zz => m.cons.length - zz.1) (fun zz => zz.2.2.2.2) (fun zz => [bxS b70 [v12, zz.2.2.1] 26, zz.2.2.2.1, bxS b5 [.slice none 0 0, .slice none 0 0] 26]) (fun zz => [(17, .int .i64 (zz.1 : Int))]) (0, ([]), v17, H18, noHp) (pk [2, 3, 15, 16] rfl) (pc 17 rfl pn) rfl ⟨Nat.zero_le _, rfl, (fr_no _), o20, f19⟩ ?_))))
    rintro ⟨k, out, v80, H77, K81⟩ hJ83
    obtain ⟨hk75, hi76, f82, o78, f79⟩ : (k ≤ m.cons.length) ∧ (out = m.cons.take k) ∧ Fr B K81 ∧ OwnL 88 5 H77 K81 ConV v80 out ∧ Fr B H77 := hJ83
    change KC _ _ (K81 :: _) [bxS b70 [v12, v80] 26, H77, bxS b5 [.slice none 0 0, .slice none 0 0] 26] _ ([(17, .int .i64 (k : Int))] ++ _)
    refine cS (cr (ls9 rfl rfl ?_))
    refine ln (qc (cS (ci9 rfl (fun c84 => ?_) (fun c84 => ?_))))
    ·refine sk (qc (cS (bl (cS (cr (kl_inC rfl rfl ‹_› (by omega) (fun p85 u87 u88 u89 h90 h91 h92 a86 => ?_)))))))
     refine kl_ldS rfl ‹_› rfl ?_
     refine kl_alloc (cs := [.int .i64 (0 : Int), .slice none 0 0, .slice none 0 0, .int .i64 (0 : Int), .slice none 0 0]) rfl (fun b93 hb94 => ?_)
     refine kl_stW (us := [.int .i64 ((m.cons.getD k nilCon).kind), u87, u88, .int .i64 ((m.cons.getD k nilCon).bound), u89]) rfl rfl rfl rfl (oc rfl (oc (Sl.oneCell ‹_›) (oc (Sl.oneCell ‹_›) (oc rfl (oc (Sl.oneCell ‹_›) oc_nil))))) rfl ?_
     refine cg [bxS b93 [.int .i64 ((m.cons.getD k nilCon).kind), u87, u88, .int .i64 ((m.cons.getD k nilCon).bound), u89] 88, bxS b70 [v12, v80] 26, H77, bxS b5 [.slice none 0 0, .slice none 0 0] 26] rfl ?_
     refine ln (qc (kc_tree (fun i => ([5, 7] : List Nat).contains i) [bxS b93 [.int .i64 ((m.cons.getD k nilCon).kind), u87, u88, .int .i64 ((m.cons.getD k nilCon).bound), u89] 88, bxS b70 [v12, v80] 26] (by kernel_rfl) ?_))
     refine kt_q 0 (.cons_cons _ (.cons_cons _ nsl)) rfl (by kernel_rfl) (fV rfl (ln (qq (kt_q 1 (.cons_cons _ (.cons_cons _ nsl)) rfl (by kernel_rfl) (ld rfl (at_box (T := 26) (cs := [v12, v80]) (off := 1) (fz := (0, 0))) (ln (qq (kt_q 2 (.cons_cons _ (.cons_cons _ nsl)) rfl (by kernel_rfl) (kl_ldS rfl (at_box (T := 88) (cs := [.int .i64 ((m.cons.getD k nilCon).kind), u87, u88, .int .i64 ((m.cons.getD k nilCon).bound), u89]) (off := 0) (fz := (0, 0))) rfl ?_)))))))))
     refine ln (qq (ta 3 rfl (kl_call rfl rfl (copyConI_ok (m.cons.getD k nilCon) (h4 _ (getD_mem (by omega))) ‹_› ‹_› ‹_›) (fun v95 H96 f97 h98 => ?_))))
     obtain ⟨_, rfl, h102⟩ := h98
     have h102' := h102
     obtain ⟨u99, u100, u101, rfl, h103, h104, h105⟩ := h102
     refine ln (qa (.cons_cons _ (.cons_cons _ nsl)) (ta 4 rfl (kl_bsK rfl (fun v106 H107 f108 r109 => ?_))))
     refine ln (qa (.cons_cons _ (.cons_cons _ nsl)) (ta 5 rfl (cm9 K81 H96 (fun c110 => ?_))))
     have o111 := OwnL.mono (K' := orHp K81 H96) o78 orL
     refine aL9 (m.cons.getD k nilCon) rfl rfl o111 r109 (RMono.mono (orC c110) ‹_›) (oc rfl (oc (Sl.oneCell ‹_›) (oc (Sl.oneCell ‹_›) (oc rfl (oc (Sl.oneCell ‹_›) oc_nil))))) (by (have h9 := congrArg List.length hi76; simp at h9; omega)) (by decide) (fun v112 H113 o114 f115 => ?_)
     have f116 := f115 B f79 (Nat.le_refl _)
     refine ln (qx rfl (kt_q 6 (.cons_cons _ (.cons_cons _ nsl)) rfl (by kernel_rfl) (fV rfl (ln (qq (ta 7 rfl (sB rfl rfl rfl (OwnL.oneCell ‹_›) (OwnL.cells ‹_›) ?_)))))))
     refine cg [bxS b93 [.int .i64 ((m.cons.getD k nilCon).kind), u87, u88, .int .i64 ((m.cons.getD k nilCon).bound), u89] 88, bxS b70 [v12, v112] 26, H113, bxS b5 [.slice none 0 0, .slice none 0 0] 26] rfl ?_
     refine ln (qx rfl (kt_end (by kernel_rfl) ?_))
     refine qc (cr (ic9 rfl rfl (by omega) ?_))
     refine mv rfl (ln (tk [bxS b70 [v12, v112] 26, H113, bxS b5 [.slice none 0 0, .slice none 0 0] 26] ?_))
     refine kq_roundK ((k + 1), (out ++ [(m.cons.getD k nilCon)]), v112, H113, (orHp K81 H96)) (by omega) (⟨by omega, (by rw [hi76, take_succ_getD nilCon (by omega)]), (fr_or f82 f97), o114, f116⟩) (pc 17 rfl pn) (pk [2, 3, 15, 16] rfl) rfl slr9
    ·refine ex9 (qc (cS (cr (kl_ldW rfl rfl (kl_stW (us := [v12, v80]) rfl rfl rfl rfl (oc (Sl.oneCell ‹_›) (oc (OwnL.oneCell ‹_›) oc_nil)) rfl ?_)))))
     refine cg [bxS b70 [v12, v80] 26, H77, bxS b5 [v12, v80] 26] rfl ?_
     refine ln (qc (rt (kq_frz H77 ?_)))
     refine kq_cmp H77 K81 (fun c117 => ?_)
     refine kq_cmp H13 (orHp H77 K81) (fun c118 => ?_)
     exact kq_retC rfl rfl rfl (orHp H13 (orHp H77 K81)) (fr_or f14 (fr_or f79 f82)) ⟨_, _, rfl, (Sl.mono ‹_› (fun b o h => orL b o h) (fun _ _ h => h)), (by have e9 : out = m.cons := (by rw [hi76, List.take_of_length_le (by omega)]); rw [← e9]; exact (Cons.mono' (OwnL.consK o78 c117) (fun b o h => orC c118 b o h)))⟩
  ·refine kl_alloc (cs := [.slice none 0 0, .slice none 0 0]) rfl (fun b119 hb120 => ?_)
   refine ln (qa nsl (ta 6 rfl (kl_mkL0 (R := ConV) rfl rfl (by omega) (by omega) (by decide) (fun v121 H122 f123 o124 => ?_))))
   refine ln (qa nsl (ta 7 rfl (kl_bd rfl (cp (Sl.cells ‹_›) (cp (OwnL.cells ‹_›) cp_nil)) rfl ?_)))
   refine ln (qx rfl (ta 9 rfl (kl_stW (us := [v12, v121]) rfl rfl rfl rfl (oc (Sl.oneCell ‹_›) (oc (OwnL.oneCell ‹_›) oc_nil)) rfl ?_)))
   refine cg [H122, bxS b119 [v12, v121] 26, bxS b5 [.slice none 0 0, .slice none 0 0] 26] rfl ?_
   refine ln (qx rfl (kt_end (by kernel_rfl) ?_))
   refine qc (cS (cS (cr (fd9 rfl ‹_› (fun p125 a126 => ?_)))))
   refine ld rfl ‹_› (le9 rfl ‹_› (fun l127 => ?_))
   refine mv rfl (ln (qc (bl (kc_loopK (A := Nat × List Con × Value × Hp × Hp) (fun zz => (zz.1 ≤ m.cons.length) ∧ (zz.2.1 = m.cons.take zz.1) ∧ Fr B zz.2.2.2.2 ∧ OwnL 88 5 zz.2.2.2.1 zz.2.2.2.2 ConV zz.2.2.1 zz.2.1 ∧ Fr B zz.2.2.2.1) (fun zz => m.cons.length - zz.1) (fun zz => zz.2.2.2.2) (fun zz => [zz.2.2.2.1, bxS b119 [v12, zz.2.2.1] 26, bxS b5 [.slice none 0 0, .slice none 0 0] 26]) (fun zz => [(17, .int .i64 (zz.1 : Int))]) (0, ([]), v121, H122, noHp) (pk [2, 3, 15, 16] rfl) (pc 17 rfl pn) rfl ⟨Nat.zero_le _, rfl, (fr_no _), o124, f123⟩ ?_))))
   rintro ⟨k, out, v133, H130, K134⟩ hJ136
   obtain ⟨hk128, hi129, f135, o131, f132⟩ : (k ≤ m.cons.length) ∧ (out = m.cons.take k) ∧ Fr B K134 ∧ OwnL 88 5 H130 K134 ConV v133 out ∧ Fr B H130 := hJ136
   change KC _ _ (K134 :: _) [H130, bxS b119 [v12, v133] 26, bxS b5 [.slice none 0 0, .slice none 0 0] 26] _ ([(17, .int .i64 (k : Int))] ++ _)
   refine cS (cr (ls9 rfl rfl ?_))
   refine ln (qc (cS (ci9 rfl (fun c137 => ?_) (fun c137 => ?_))))
   ·refine sk (qc (cS (bl (cS (cr (kl_inC rfl rfl ‹_› (by omega) (fun p138 u140 u141 u142 h143 h144 h145 a139 => ?_)))))))
    refine kl_ldS rfl ‹_› rfl ?_
    refine kl_alloc (cs := [.int .i64 (0 : Int), .slice none 0 0, .slice none 0 0, .int .i64 (0 : Int), .slice none 0 0]) rfl (fun b146 hb147 => ?_)
    refine kl_stW (us := [.int .i64 ((m.cons.getD k nilCon).kind), u140, u141, .int .i64 ((m.cons.getD k nilCon).bound), u142]) rfl rfl rfl rfl (oc rfl (oc (Sl.oneCell ‹_›) (oc (Sl.oneCell ‹_›) (oc rfl (oc (Sl.oneCell ‹_›) oc_nil))))) rfl ?_
    refine cg [bxS b146 [.int .i64 ((m.cons.getD k nilCon).kind), u140, u141, .int .i64 ((m.cons.getD k nilCon).bound), u142] 88, H130, bxS b119 [v12, v133] 26, bxS b5 [.slice none 0 0, .slice none 0 0] 26] rfl ?_
    refine ln (qc (kc_tree (fun i => ([5, 7] : List Nat).contains i) [bxS b146 [.int .i64 ((m.cons.getD k nilCon).kind), u140, u141, .int .i64 ((m.cons.getD k nilCon).bound), u142] 88, bxS b119 [v12, v133] 26] (by kernel_rfl) ?_))
    refine kt_q 0 (.cons_cons _ (.cons _ (.cons_cons _ nsl))) rfl (by kernel_rfl) (fV rfl (ln (qq (kt_q 1 (.cons_cons _ (.cons _ (.cons_cons _ nsl))) rfl (by kernel_rfl) (ld rfl (at_box (T := 26) (cs := [v12, v133]) (off := 1) (fz := (0, 0))) (ln (qq (kt_q 2 (.cons_cons _ (.cons _ (.cons_cons _ nsl))) rfl (by kernel_rfl) (kl_ldS rfl (at_box (T := 88) (cs := [.int .i64 ((m.cons.getD k nilCon).kind), u140, u141, .int .i64 ((m.cons.getD k nilCon).bound), u142]) (off := 0) (fz := (0, 0))) rfl ?_)))))))))
    refine ln (qq (ta 3 rfl (kl_call rfl rfl (copyConI_ok (m.cons.getD k nilCon) (h4 _ (getD_mem (by omega))) ‹_› ‹_› ‹_›) (fun v148 H149 f150 h151 => ?_))))
    obtain ⟨_, rfl, h155⟩ := h151
    have h155' := h155
    obtain ⟨u152, u153, u154, rfl, h156, h157, h158⟩ := h155
    refine ln (qa (.cons_cons _ (.cons _ (.cons_cons _ nsl))) (ta 4 rfl (kl_bsK rfl (fun v159 H160 f161 r162 => ?_))))
    refine ln (qa (.cons_cons _ (.cons _ (.cons_cons _ nsl))) (ta 5 rfl (cm9 K134 H149 (fun c163 => ?_))))
    have o164 := OwnL.mono (K' := orHp K134 H149) o131 orL
    refine aL9 (m.cons.getD k nilCon) rfl rfl o164 r162 (RMono.mono (orC c163) ‹_›) (oc rfl (oc (Sl.oneCell ‹_›) (oc (Sl.oneCell ‹_›) (oc rfl (oc (Sl.oneCell ‹_›) oc_nil))))) (by (have h9 := congrArg List.length hi129; simp at h9; omega)) (by decide) (fun v165 H166 o167 f168 => ?_)
    have f169 := f168 B f132 (Nat.le_refl _)
    refine ln (qx rfl (kt_q 6 (.cons_cons _ (.cons _ (.cons_cons _ nsl))) rfl (by kernel_rfl) (fV rfl (ln (qq (ta 7 rfl (sB rfl rfl rfl (OwnL.oneCell ‹_›) (OwnL.cells ‹_›) ?_)))))))
    refine cg [bxS b146 [.int .i64 ((m.cons.getD k nilCon).kind), u140, u141, .int .i64 ((m.cons.getD k nilCon).bound), u142] 88, H166, bxS b119 [v12, v165] 26, bxS b5 [.slice none 0 0, .slice none 0 0] 26] rfl ?_
    refine ln (qx rfl (kt_end (by kernel_rfl) ?_))
    refine qc (cr (ic9 rfl rfl (by omega) ?_))
    refine mv rfl (ln (tk [H166, bxS b119 [v12, v165] 26, bxS b5 [.slice none 0 0, .slice none 0 0] 26] ?_))
    refine kq_roundK ((k + 1), (out ++ [(m.cons.getD k nilCon)]), v165, H166, (orHp K134 H149)) (by omega) (⟨by omega, (by rw [hi129, take_succ_getD nilCon (by omega)]), (fr_or f135 f150), o167, f169⟩) (pc 17 rfl pn) (pk [2, 3, 15, 16] rfl) rfl slr9
   ·refine ex9 (qc (cS (cr (kl_ldW rfl rfl (kl_stW (us := [v12, v133]) rfl rfl rfl rfl (oc (Sl.oneCell ‹_›) (oc (OwnL.oneCell ‹_›) oc_nil)) rfl ?_)))))
    refine cg [H130, bxS b119 [v12, v133] 26, bxS b5 [v12, v133] 26] rfl ?_
    refine ln (qc (rt (kq_frz H130 ?_)))
    refine kq_cmp H130 K134 (fun c170 => ?_)
    refine kq_cmp H13 (orHp H130 K134) (fun c171 => ?_)
    exact kq_retC rfl rfl rfl (orHp H13 (orHp H130 K134)) (fr_or f14 (fr_or f132 f135)) ⟨_, _, rfl, (Sl.mono ‹_› (fun b o h => orL b o h) (fun _ _ h => h)), (by have e9 : out = m.cons := (by rw [hi129, List.take_of_length_le (by omega)]); rw [← e9]; exact (Cons.mono' (OwnL.consK o131 c170) (fun b o h => orC c171 b o h)))⟩
 ·refine kl_mkL0 (R := ConV) rfl rfl (by omega) (by omega) (by decide) (fun v172 H173 f174 o175 => ?_)
  refine ln (qa nsl (kt_b 2 8 rfl rfl (by kernel_rfl) ?_ ?_))
  ·refine kl_call rfl rfl (copied_ok m.doms (by omega) ‹_›) (fun v176 H177 f178 o179 => ?_)
   have h180 := OwnL.ints o179
   refine ln (qa nsl (kt_b 7 8 rfl rfl (by kernel_rfl) ?_ ?_))
   ·refine kl_bd rfl (cp (Sl.cells ‹_›) (cp (OwnL.cells ‹_›) cp_nil)) rfl ?_
    refine ln (qx rfl (ta 8 rfl (kl_alloc (cs := [.slice none 0 0, .slice none 0 0]) rfl (fun b181 hb182 => ?_))))
    refine ln (qa nsl (ta 9 rfl (kl_stW (us := [v176, v172]) rfl rfl rfl rfl (oc (Sl.oneCell ‹_›) (oc (OwnL.oneCell ‹_›) oc_nil)) rfl ?_)))
    refine cg [bxS b181 [v176, v172] 26, H173, bxS b5 [.slice none 0 0, .slice none 0 0] 26] rfl ?_
    refine ln (qx rfl (kt_end (by kernel_rfl) ?_))
    refine qc (cS (cS (cr (fd9 rfl ‹_› (fun p183 a184 => ?_)))))
    refine ld rfl ‹_› (le9 rfl ‹_› (fun l185 => ?_))
    refine mv rfl (ln (qc (bl (kc_loopK (A := Nat × List Con × Value × Hp × Hp) (fun zz => (zz.1 ≤ m.cons.length) ∧ (zz.2.1 = m.cons.take zz.1) ∧ Fr B zz.2.2.2.2 ∧ OwnL 88 5 zz.2.2.2.1 zz.2.2.2.2 ConV zz.2.2.1 zz.2.1 ∧ Fr B zz.2.2.2.1) (fun zz => m.cons.length - zz.1) (fun zz => zz.2.2.2.2) (fun zz => [bxS b181 [v176, zz.2.2.1] 26, zz.2.2.2.1, bxS b5 [.slice none 0 0, .slice none 0 0] 26]) (fun zz => [(17, .int .i64 (zz.1 : Int))]) (0, ([]), v172, H173, noHp) (pk [2, 3, 15, 16] rfl) (pc 17 rfl pn) rfl ⟨Nat.zero_le _, rfl, (fr_no _), o175, f174⟩ ?_))))
    rintro ⟨k, out, v191, H188, K192⟩ hJ194
    obtain ⟨hk186, hi187, f193, o189, f190⟩ : (k ≤ m.cons.length) ∧ (out = m.cons.take k) ∧ Fr B K192 ∧ OwnL 88 5 H188 K192 ConV v191 out ∧ Fr B H188 := hJ194
    change KC _ _ (K192 :: _) [bxS b181 [v176, v191] 26, H188, bxS b5 [.slice none 0 0, .slice none 0 0] 26] _ ([(17, .int .i64 (k : Int))] ++ _)
    refine cS (cr (ls9 rfl rfl ?_))
    refine ln (qc (cS (ci9 rfl (fun c195 => ?_) (fun c195 => ?_))))
    ·refine sk (qc (cS (bl (cS (cr (kl_inC rfl rfl ‹_› (by omega) (fun p196 u198 u199 u200 h201 h202 h203 a197 => ?_)))))))
     refine kl_ldS rfl ‹_› rfl ?_
     refine kl_alloc (cs := [.int .i64 (0 : Int), .slice none 0 0, .slice none 0 0, .int .i64 (0 : Int), .slice none 0 0]) rfl (fun b204 hb205 => ?_)
     refine kl_stW (us := [.int .i64 ((m.cons.getD k nilCon).kind), u198, u199, .int .i64 ((m.cons.getD k nilCon).bound), u200]) rfl rfl rfl rfl (oc rfl (oc (Sl.oneCell ‹_›) (oc (Sl.oneCell ‹_›) (oc rfl (oc (Sl.oneCell ‹_›) oc_nil))))) rfl ?_
     refine cg [bxS b204 [.int .i64 ((m.cons.getD k nilCon).kind), u198, u199, .int .i64 ((m.cons.getD k nilCon).bound), u200] 88, bxS b181 [v176, v191] 26, H188, bxS b5 [.slice none 0 0, .slice none 0 0] 26] rfl ?_
     refine ln (qc (kc_tree (fun i => ([5, 7] : List Nat).contains i) [bxS b204 [.int .i64 ((m.cons.getD k nilCon).kind), u198, u199, .int .i64 ((m.cons.getD k nilCon).bound), u200] 88, bxS b181 [v176, v191] 26] (by kernel_rfl) ?_))
     refine kt_q 0 (.cons_cons _ (.cons_cons _ nsl)) rfl (by kernel_rfl) (fV rfl (ln (qq (kt_q 1 (.cons_cons _ (.cons_cons _ nsl)) rfl (by kernel_rfl) (ld rfl (at_box (T := 26) (cs := [v176, v191]) (off := 1) (fz := (0, 0))) (ln (qq (kt_q 2 (.cons_cons _ (.cons_cons _ nsl)) rfl (by kernel_rfl) (kl_ldS rfl (at_box (T := 88) (cs := [.int .i64 ((m.cons.getD k nilCon).kind), u198, u199, .int .i64 ((m.cons.getD k nilCon).bound), u200]) (off := 0) (fz := (0, 0))) rfl ?_)))))))))
     refine ln (qq (ta 3 rfl (kl_call rfl rfl (copyConI_ok (m.cons.getD k nilCon) (h4 _ (getD_mem (by omega))) ‹_› ‹_› ‹_›) (fun v206 H207 f208 h209 => ?_))))
     obtain ⟨_, rfl, h213⟩ := h209
     have h213' := h213
     obtain ⟨u210, u211, u212, rfl, h214, h215, h216⟩ := h213
     refine ln (qa (.cons_cons _ (.cons_cons _ nsl)) (ta 4 rfl (kl_bsK rfl (fun v217 H218 f219 r220 => ?_))))
     refine ln (qa (.cons_cons _ (.cons_cons _ nsl)) (ta 5 rfl (cm9 K192 H207 (fun c221 => ?_))))
     have o222 := OwnL.mono (K' := orHp K192 H207) o189 orL
     refine aL9 (m.cons.getD k nilCon) rfl rfl o222 r220 (RMono.mono (orC c221) ‹_›) (oc rfl (oc (Sl.oneCell ‹_›) (oc (Sl.oneCell ‹_›) (oc rfl (oc (Sl.oneCell ‹_›) oc_nil))))) (by (have h9 := congrArg List.length hi187; simp at h9; omega)) (by decide) (fun v223 H224 o225 f226 => ?_)
     have f227 := f226 B f190 (Nat.le_refl _)
     refine ln (qx rfl (kt_q 6 (.cons_cons _ (.cons_cons _ nsl)) rfl (by kernel_rfl) (fV rfl (ln (qq (ta 7 rfl (sB rfl rfl rfl (OwnL.oneCell ‹_›) (OwnL.cells ‹_›) ?_)))))))
     refine cg [bxS b204 [.int .i64 ((m.cons.getD k nilCon).kind), u198, u199, .int .i64 ((m.cons.getD k nilCon).bound), u200] 88, bxS b181 [v176, v223] 26, H224, bxS b5 [.slice none 0 0, .slice none 0 0] 26] rfl ?_
     refine ln (qx rfl (kt_end (by kernel_rfl) ?_))
     refine qc (cr (ic9 rfl rfl (by omega) ?_))
     refine mv rfl (ln (tk [bxS b181 [v176, v223] 26, H224, bxS b5 [.slice none 0 0, .slice none 0 0] 26] ?_))
     refine kq_roundK ((k + 1), (out ++ [(m.cons.getD k nilCon)]), v223, H224, (orHp K192 H207)) (by omega) (⟨by omega, (by rw [hi187, take_succ_getD nilCon (by omega)]), (fr_or f193 f208), o225, f227⟩) (pc 17 rfl pn) (pk [2, 3, 15, 16] rfl) rfl slr9
    ·refine ex9 (qc (cS (cr (kl_ldW rfl rfl (kl_stW (us := [v176, v191]) rfl rfl rfl rfl (oc (Sl.oneCell ‹_›) (oc (OwnL.oneCell ‹_›) oc_nil)) rfl ?_)))))
     refine cg [bxS b181 [v176, v191] 26, H188, bxS b5 [v176, v191] 26] rfl ?_
     refine ln (qc (rt (kq_frz H188 ?_)))
     refine kq_cmp H188 K192 (fun c228 => ?_)
     refine kq_cmp H177 (orHp H188 K192) (fun c229 => ?_)
     exact kq_retC rfl rfl rfl (orHp H177 (orHp H188 K192)) (fr_or f178 (fr_or f190 f193)) ⟨_, _, rfl, (Sl.mono ‹_› (fun b o h => orL b o h) (fun _ _ h => h)), (by have e9 : out = m.cons := (by rw [hi187, List.take_of_length_le (by omega)]); rw [← e9]; exact (Cons.mono' (OwnL.consK o189 c228) (fun b o h => orC c229 b o h)))⟩
   ·refine kl_alloc (cs := [.slice none 0 0, .slice none 0 0]) rfl (fun b230 hb231 => ?_)
    refine ln (qa nsl (ta 7 rfl (kl_bd rfl (cp (Sl.cells ‹_›) (cp (OwnL.cells ‹_›) cp_nil)) rfl ?_)))
    refine ln (qx rfl (ta 9 rfl (kl_stW (us := [v176, v172]) rfl rfl rfl rfl (oc (Sl.oneCell ‹_›) (oc (OwnL.oneCell ‹_›) oc_nil)) rfl ?_)))
    refine cg [bxS b230 [v176, v172] 26, H173, bxS b5 [.slice none 0 0, .slice none 0 0] 26] rfl ?_
    refine ln (qx rfl (kt_end (by kernel_rfl) ?_))
    refine qc (cS (cS (cr (fd9 rfl ‹_› (fun p232 a233 => ?_)))))
    refine ld rfl ‹_› (le9 rfl ‹_› (fun l234 => ?_))
    refine mv rfl (ln (qc (bl (kc_loopK (A := Nat × List Con × Value × Hp × Hp) (fun zz => (zz.1 ≤ m.cons.length) ∧ (zz.2.1 = m.cons.take zz.1) ∧ Fr B zz.2.2.2.2 ∧ OwnL 88 5 zz.2.2.2.1 zz.2.2.2.2 ConV zz.2.2.1 zz.2.1 ∧ Fr B zz.2.2.2.1) (fun zz => m.cons.length - zz.1) (fun zz => zz.2.2.2.2) (fun zz => [bxS b230 [v176, zz.2.2.1] 26, zz.2.2.2.1, bxS b5 [.slice none 0 0, .slice none 0 0] 26]) (fun zz => [(17, .int .i64 (zz.1 : Int))]) (0, ([]), v172, H173, noHp) (pk [2, 3, 15, 16] rfl) (pc 17 rfl pn) rfl ⟨Nat.zero_le _, rfl, (fr_no _), o175, f174⟩ ?_))))
    rintro ⟨k, out, v240, H237, K241⟩ hJ243
    obtain ⟨hk235, hi236, f242, o238, f239⟩ : (k ≤ m.cons.length) ∧ (out = m.cons.take k) ∧ Fr B K241 ∧ OwnL 88 5 H237 K241 ConV v240 out ∧ Fr B H237 := hJ243
    change KC _ _ (K241 :: _) [bxS b230 [v176, v240] 26, H237, bxS b5 [.slice none 0 0, .slice none 0 0] 26] _ ([(17, .int .i64 (k : Int))] ++ _)
    refine cS (cr (ls9 rfl rfl ?_))
    refine ln (qc (cS (ci9 rfl (fun c244 => ?_) (fun c244 => ?_))))
    ·refine sk (qc (cS (bl (cS (cr (kl_inC rfl rfl ‹_› (by omega) (fun p245 u247 u248 u249 h250 h251 h252 a246 => ?_)))))))
     refine kl_ldS rfl ‹_› rfl ?_
     refine kl_alloc (cs := [.int .i64 (0 : Int), .slice none 0 0, .slice none 0 0, .int .i64 (0 : Int), .slice none 0 0]) rfl (fun b253 hb254 => ?_)
     refine kl_stW (us := [.int .i64 ((m.cons.getD k nilCon).kind), u247, u248, .int .i64 ((m.cons.getD k nilCon).bound), u249]) rfl rfl rfl rfl (oc rfl (oc (Sl.oneCell ‹_›) (oc (Sl.oneCell ‹_›) (oc rfl (oc (Sl.oneCell ‹_›) oc_nil))))) rfl ?_
     refine cg [bxS b253 [.int .i64 ((m.cons.getD k nilCon).kind), u247, u248, .int .i64 ((m.cons.getD k nilCon).bound), u249] 88, bxS b230 [v176, v240] 26, H237, bxS b5 [.slice none 0 0, .slice none 0 0] 26] rfl ?_
     refine ln (qc (kc_tree (fun i => ([5, 7] : List Nat).contains i) [bxS b253 [.int .i64 ((m.cons.getD k nilCon).kind), u247, u248, .int .i64 ((m.cons.getD k nilCon).bound), u249] 88, bxS b230 [v176, v240] 26] (by kernel_rfl) ?_))
     refine kt_q 0 (.cons_cons _ (.cons_cons _ nsl)) rfl (by kernel_rfl) (fV rfl (ln (qq (kt_q 1 (.cons_cons _ (.cons_cons _ nsl)) rfl (by kernel_rfl) (ld rfl (at_box (T := 26) (cs := [v176, v240]) (off := 1) (fz := (0, 0))) (ln (qq (kt_q 2 (.cons_cons _ (.cons_cons _ nsl)) rfl (by kernel_rfl) (kl_ldS rfl (at_box (T := 88) (cs := [.int .i64 ((m.cons.getD k nilCon).kind), u247, u248, .int .i64 ((m.cons.getD k nilCon).bound), u249]) (off := 0) (fz := (0, 0))) rfl ?_)))))))))
     refine ln (qq (ta 3 rfl (kl_call rfl rfl (copyConI_ok (m.cons.getD k nilCon) (h4 _ (getD_mem (by omega))) ‹_› ‹_› ‹_›) (fun v255 H256 f257 h258 => ?_))))
     obtain ⟨_, rfl, h262⟩ := h258
     have h262' := h262
     obtain ⟨u259, u260, u261, rfl, h263, h264, h265⟩ := h262
     refine ln (qa (.cons_cons _ (.cons_cons _ nsl)) (ta 4 rfl (kl_bsK rfl (fun v266 H267 f268 r269 => ?_))))
     refine ln (qa (.cons_cons _ (.cons_cons _ nsl)) (ta 5 rfl (cm9 K241 H256 (fun c270 => ?_))))
     have o271 := OwnL.mono (K' := orHp K241 H256) o238 orL
     refine aL9 (m.cons.getD k nilCon) rfl rfl o271 r269 (RMono.mono (orC c270) ‹_›) (oc rfl (oc (Sl.oneCell ‹_›) (oc (Sl.oneCell ‹_›) (oc rfl (oc (Sl.oneCell ‹_›) oc_nil))))) (by (have h9 := congrArg List.length hi236; simp at h9; omega)) (by decide) (fun v272 H273 o274 f275 => ?_)
     have f276 := f275 B f239 (Nat.le_refl _)
     refine ln (qx rfl (kt_q 6 (.cons_cons _ (.cons_cons _ nsl)) rfl (by kernel_rfl) (fV rfl (ln (qq (ta 7 rfl (sB rfl rfl rfl (OwnL.oneCell ‹_›) (OwnL.cells ‹_›) ?_)))))))
     refine cg [bxS b253 [.int .i64 ((m.cons.getD k nilCon).kind), u247, u248, .int .i64 ((m.cons.getD k nilCon).bound), u249] 88, bxS b230 [v176, v272] 26, H273, bxS b5 [.slice none 0 0, .slice none 0 0] 26] rfl ?_
     refine ln (qx rfl (kt_end (by kernel_rfl) ?_))
     refine qc (cr (ic9 rfl rfl (by omega) ?_))
     refine mv rfl (ln (tk [bxS b230 [v176, v272] 26, H273, bxS b5 [.slice none 0 0, .slice none 0 0] 26] ?_))
     refine kq_roundK ((k + 1), (out ++ [(m.cons.getD k nilCon)]), v272, H273, (orHp K241 H256)) (by omega) (⟨by omega, (by rw [hi236, take_succ_getD nilCon (by omega)]), (fr_or f242 f257), o274, f276⟩) (pc 17 rfl pn) (pk [2, 3, 15, 16] rfl) rfl slr9
    ·refine ex9 (qc (cS (cr (kl_ldW rfl rfl (kl_stW (us := [v176, v240]) rfl rfl rfl rfl (oc (Sl.oneCell ‹_›) (oc (OwnL.oneCell ‹_›) oc_nil)) rfl ?_)))))
     refine cg [bxS b230 [v176, v240] 26, H237, bxS b5 [v176, v240] 26] rfl ?_
     refine ln (qc (rt (kq_frz H237 ?_)))
     refine kq_cmp H237 K241 (fun c277 => ?_)
     refine kq_cmp H177 (orHp H237 K241) (fun c278 => ?_)
     exact kq_retC rfl rfl rfl (orHp H177 (orHp H237 K241)) (fr_or f178 (fr_or f239 f242)) ⟨_, _, rfl, (Sl.mono ‹_› (fun b o h => orL b o h) (fun _ _ h => h)), (by have e9 : out = m.cons := (by rw [hi236, List.take_of_length_le (by omega)]); rw [← e9]; exact (Cons.mono' (OwnL.consK o238 c277) (fun b o h => orC c278 b o h)))⟩
  ·refine kl_alloc (cs := [.slice none 0 0, .slice none 0 0]) rfl (fun b279 hb280 => ?_)
   refine ln (qa nsl (ta 2 rfl (kl_call rfl rfl (copied_ok m.doms (by omega) ‹_›) (fun v281 H282 f283 o284 => ?_))))
   have h285 := OwnL.ints o284
   refine ln (qa nsl (ta 7 rfl (kl_bd rfl (cp (Sl.cells ‹_›) (cp (OwnL.cells ‹_›) cp_nil)) rfl ?_)))
   refine ln (qx rfl (ta 9 rfl (kl_stW (us := [v281, v172]) rfl rfl rfl rfl (oc (Sl.oneCell ‹_›) (oc (OwnL.oneCell ‹_›) oc_nil)) rfl ?_)))
   refine cg [bxS b279 [v281, v172] 26, H173, bxS b5 [.slice none 0 0, .slice none 0 0] 26] rfl ?_
   refine ln (qx rfl (kt_end (by kernel_rfl) ?_))
   refine qc (cS (cS (cr (fd9 rfl ‹_› (fun p286 a287 => ?_)))))
   refine ld rfl ‹_› (le9 rfl ‹_› (fun l288 => ?_))
   refine mv rfl (ln (qc (bl (kc_loopK (A := Nat × List Con × Value × Hp × Hp) (fun zz => (zz.1 ≤ m.cons.length) ∧ (zz.2.1 = m.cons.take zz.1) ∧ Fr B zz.2.2.2.2 ∧ OwnL 88 5 zz.2.2.2.1 zz.2.2.2.2 ConV zz.2.2.1 zz.2.1 ∧ Fr B zz.2.2.2.1) (fun zz => m.cons.length - zz.1) (fun zz => zz.2.2.2.2) (fun zz => [bxS b279 [v281, zz.2.2.1] 26, zz.2.2.2.1, bxS b5 [.slice none 0 0, .slice none 0 0] 26]) (fun zz => [(17, .int .i64 (zz.1 : Int))]) (0, ([]), v172, H173, noHp) (pk [2, 3, 15, 16] rfl) (pc 17 rfl pn) rfl ⟨Nat.zero_le _, rfl, (fr_no _), o175, f174⟩ ?_))))
   rintro ⟨k, out, v294, H291, K295⟩ hJ297
   obtain ⟨hk289, hi290, f296, o292, f293⟩ : (k ≤ m.cons.length) ∧ (out = m.cons.take k) ∧ Fr B K295 ∧ OwnL 88 5 H291 K295 ConV v294 out ∧ Fr B H291 := hJ297
   change KC _ _ (K295 :: _) [bxS b279 [v281, v294] 26, H291, bxS b5 [.slice none 0 0, .slice none 0 0] 26] _ ([(17, .int .i64 (k : Int))] ++ _)
   refine cS (cr (ls9 rfl rfl ?_))
   refine ln (qc (cS (ci9 rfl (fun c298 => ?_) (fun c298 => ?_))))
   ·refine sk (qc (cS (bl (cS (cr (kl_inC rfl rfl ‹_› (by omega) (fun p299 u301 u302 u303 h304 h305 h306 a300 => ?_)))))))
    refine kl_ldS rfl ‹_› rfl ?_
    refine kl_alloc (cs := [.int .i64 (0 : Int), .slice none 0 0, .slice none 0 0, .int .i64 (0 : Int), .slice none 0 0]) rfl (fun b307 hb308 => ?_)
    refine kl_stW (us := [.int .i64 ((m.cons.getD k nilCon).kind), u301, u302, .int .i64 ((m.cons.getD k nilCon).bound), u303]) rfl rfl rfl rfl (oc rfl (oc (Sl.oneCell ‹_›) (oc (Sl.oneCell ‹_›) (oc rfl (oc (Sl.oneCell ‹_›) oc_nil))))) rfl ?_
    refine cg [bxS b307 [.int .i64 ((m.cons.getD k nilCon).kind), u301, u302, .int .i64 ((m.cons.getD k nilCon).bound), u303] 88, bxS b279 [v281, v294] 26, H291, bxS b5 [.slice none 0 0, .slice none 0 0] 26] rfl ?_
    refine ln (qc (kc_tree (fun i => ([5, 7] : List Nat).contains i) [bxS b307 [.int .i64 ((m.cons.getD k nilCon).kind), u301, u302, .int .i64 ((m.cons.getD k nilCon).bound), u303] 88, bxS b279 [v281, v294] 26] (by kernel_rfl) ?_))
    refine kt_q 0 (.cons_cons _ (.cons_cons _ nsl)) rfl (by kernel_rfl) (fV rfl (ln (qq (kt_q 1 (.cons_cons _ (.cons_cons _ nsl)) rfl (by kernel_rfl) (ld rfl (at_box (T := 26) (cs := [v281, v294]) (off := 1) (fz := (0, 0))) (ln (qq (kt_q 2 (.cons_cons _ (.cons_cons _ nsl)) rfl (by kernel_rfl) (kl_ldS rfl (at_box (T := 88) (cs := [.int .i64 ((m.cons.getD k nilCon).kind), u301, u302, .int .i64 ((m.cons.getD k nilCon).bound), u303]) (off := 0) (fz := (0, 0))) rfl ?_)))))))))
    refine ln (qq (ta 3 rfl (kl_call rfl rfl (copyConI_ok (m.cons.getD k nilCon) (h4 _ (getD_mem (by omega))) ‹_› ‹_› ‹_›) (fun v309 H310 f311 h312 => ?_))))
    obtain ⟨_, rfl, h316⟩ := h312
    have h316' := h316
    obtain ⟨u313, u314, u315, rfl, h317, h318, h319⟩ := h316
    refine ln (qa (.cons_cons _ (.cons_cons _ nsl)) (ta 4 rfl (kl_bsK rfl (fun v320 H321 f322 r323 => ?_))))
    refine ln (qa (.cons_cons _ (.cons_cons _ nsl)) (ta 5 rfl (cm9 K295 H310 (fun c324 => ?_))))
    have o325 := OwnL.mono (K' := orHp K295 H310) o292 orL
    refine aL9 (m.cons.getD k nilCon) rfl rfl o325 r323 (RMono.mono (orC c324) ‹_›) (oc rfl (oc (Sl.oneCell ‹_›) (oc (Sl.oneCell ‹_›) (oc rfl (oc (Sl.oneCell ‹_›) oc_nil))))) (by (have h9 := congrArg List.length hi290; simp at h9; omega)) (by decide) (fun v326 H327 o328 f329 => ?_)
    have f330 := f329 B f293 (Nat.le_refl _)
    refine ln (qx rfl (kt_q 6 (.cons_cons _ (.cons_cons _ nsl)) rfl (by kernel_rfl) (fV rfl (ln (qq (ta 7 rfl (sB rfl rfl rfl (OwnL.oneCell ‹_›) (OwnL.cells ‹_›) ?_)))))))
    refine cg [bxS b307 [.int .i64 ((m.cons.getD k nilCon).kind), u301, u302, .int .i64 ((m.cons.getD k nilCon).bound), u303] 88, bxS b279 [v281, v326] 26, H327, bxS b5 [.slice none 0 0, .slice none 0 0] 26] rfl ?_
    refine ln (qx rfl (kt_end (by kernel_rfl) ?_))
    refine qc (cr (ic9 rfl rfl (by omega) ?_))
    refine mv rfl (ln (tk [bxS b279 [v281, v326] 26, H327, bxS b5 [.slice none 0 0, .slice none 0 0] 26] ?_))
    refine kq_roundK ((k + 1), (out ++ [(m.cons.getD k nilCon)]), v326, H327, (orHp K295 H310)) (by omega) (⟨by omega, (by rw [hi290, take_succ_getD nilCon (by omega)]), (fr_or f296 f311), o328, f330⟩) (pc 17 rfl pn) (pk [2, 3, 15, 16] rfl) rfl slr9
   ·refine ex9 (qc (cS (cr (kl_ldW rfl rfl (kl_stW (us := [v281, v294]) rfl rfl rfl rfl (oc (Sl.oneCell ‹_›) (oc (OwnL.oneCell ‹_›) oc_nil)) rfl ?_)))))
    refine cg [bxS b279 [v281, v294] 26, H291, bxS b5 [v281, v294] 26] rfl ?_
    refine ln (qc (rt (kq_frz H291 ?_)))
    refine kq_cmp H291 K295 (fun c331 => ?_)
    refine kq_cmp H282 (orHp H291 K295) (fun c332 => ?_)
    exact kq_retC rfl rfl rfl (orHp H282 (orHp H291 K295)) (fr_or f283 (fr_or f293 f296)) ⟨_, _, rfl, (Sl.mono ‹_› (fun b o h => orL b o h) (fun _ _ h => h)), (by have e9 : out = m.cons := (by rw [hi290, List.take_of_length_le (by omega)]); rw [← e9]; exact (Cons.mono' (OwnL.consK o292 c331) (fun b o h => orC c332 b o h)))⟩
 ·refine kl_alloc (cs := [.slice none 0 0, .slice none 0 0]) rfl (fun b333 hb334 => ?_)
  refine ln (qa nsl (kt_b 2 6 rfl rfl (by kernel_rfl) ?_ ?_))
  ·refine kl_call rfl rfl (copied_ok m.doms (by omega) ‹_›) (fun v335 H336 f337 o338 => ?_)
   have h339 := OwnL.ints o338
   refine ln (qa nsl (ta 6 rfl (kl_mkL0 (R := ConV) rfl rfl (by omega) (by omega) (by decide) (fun v340 H341 f342 o343 => ?_))))
   refine ln (qa nsl (ta 7 rfl (kl_bd rfl (cp (Sl.cells ‹_›) (cp (OwnL.cells ‹_›) cp_nil)) rfl ?_)))
   refine ln (qx rfl (ta 9 rfl (kl_stW (us := [v335, v340]) rfl rfl rfl rfl (oc (Sl.oneCell ‹_›) (oc (OwnL.oneCell ‹_›) oc_nil)) rfl ?_)))
   refine cg [H341, bxS b333 [v335, v340] 26, bxS b5 [.slice none 0 0, .slice none 0 0] 26] rfl ?_
   refine ln (qx rfl (kt_end (by kernel_rfl) ?_))
   refine qc (cS (cS (cr (fd9 rfl ‹_› (fun p344 a345 => ?_)))))
   refine ld rfl ‹_› (le9 rfl ‹_› (fun l346 => ?_))
   refine mv rfl (ln (qc (bl (kc_loopK (A := Nat × List Con × Value × Hp × Hp) (fun zz => (zz.1 ≤ m.cons.length) ∧ (zz.2.1 = m.cons.take zz.1) ∧ Fr B zz.2.2.2.2 ∧ OwnL 88 5 zz.2.2.2.1 zz.2.2.2.2 ConV zz.2.2.1 zz.2.1 ∧ Fr B zz.2.2.2.1) (fun zz => m.cons.length - zz.1) (fun zz => zz.2.2.2.2) (fun zz => [zz.2.2.2.1, bxS b333 [v335, zz.2.2.1] 26, bxS b5 [.slice none 0 0, .slice none 0 0] 26]) (fun zz => [(17, .int .i64 (zz.1 : Int))]) (0, ([]), v340, H341, noHp) (pk [2, 3, 15, 16] rfl) (pc 17 rfl pn) rfl ⟨Nat.zero_le _, rfl, (fr_no _), o343, f342⟩ ?_))))
   rintro ⟨k, out, v352, H349, K353⟩ hJ355
   obtain ⟨hk347, hi348, f354, o350, f351⟩ : (k ≤ m.cons.length) ∧ (out = m.cons.take k) ∧ Fr B K353 ∧ OwnL 88 5 H349 K353 ConV v352 out ∧ Fr B H349 := hJ355
   change KC _ _ (K353 :: _) [H349, bxS b333 [v335, v352] 26, bxS b5 [.slice none 0 0, .slice none 0 0] 26] _ ([(17, .int .i64 (k : Int))] ++ _)
   refine cS (cr (ls9 rfl rfl ?_))
   refine ln (qc (cS (ci9 rfl (fun c356 => ?_) (fun c356 => ?_))))
   ·refine sk (qc (cS (bl (cS (cr (kl_inC rfl rfl ‹_› (by omega) (fun p357 u359 u360 u361 h362 h363 h364 a358 => ?_)))))))
    refine kl_ldS rfl ‹_› rfl ?_
    refine kl_alloc (cs := [.int .i64 (0 : Int), .slice none 0 0, .slice none 0 0, .int .i64 (0 : Int), .slice none 0 0]) rfl (fun b365 hb366 => ?_)
    refine kl_stW (us := [.int .i64 ((m.cons.getD k nilCon).kind), u359, u360, .int .i64 ((m.cons.getD k nilCon).bound), u361]) rfl rfl rfl rfl (oc rfl (oc (Sl.oneCell ‹_›) (oc (Sl.oneCell ‹_›) (oc rfl (oc (Sl.oneCell ‹_›) oc_nil))))) rfl ?_
    refine cg [bxS b365 [.int .i64 ((m.cons.getD k nilCon).kind), u359, u360, .int .i64 ((m.cons.getD k nilCon).bound), u361] 88, H349, bxS b333 [v335, v352] 26, bxS b5 [.slice none 0 0, .slice none 0 0] 26] rfl ?_
    refine ln (qc (kc_tree (fun i => ([5, 7] : List Nat).contains i) [bxS b365 [.int .i64 ((m.cons.getD k nilCon).kind), u359, u360, .int .i64 ((m.cons.getD k nilCon).bound), u361] 88, bxS b333 [v335, v352] 26] (by kernel_rfl) ?_))
    refine kt_q 0 (.cons_cons _ (.cons _ (.cons_cons _ nsl))) rfl (by kernel_rfl) (fV rfl (ln (qq (kt_q 1 (.cons_cons _ (.cons _ (.cons_cons _ nsl))) rfl (by kernel_rfl) (ld rfl (at_box (T := 26) (cs := [v335, v352]) (off := 1) (fz := (0, 0))) (ln (qq (kt_q 2 (.cons_cons _ (.cons _ (.cons_cons _ nsl))) rfl (by kernel_rfl) ?_))))))))
    refine kl_ldS rfl (at_box (T := 88) (cs := [.int .i64 ((m.cons.getD k nilCon).kind), u359, u360, .int .i64 ((m.cons.getD k nilCon).bound), u361]) (off := 0) (fz := (0, 0))) rfl ?_
    refine ln (qq (ta 3 rfl (kl_call rfl rfl (copyConI_ok (m.cons.getD k nilCon) (h4 _ (getD_mem (by omega))) ‹_› ‹_› ‹_›) (fun v367 H368 f369 h370 => ?_))))
    obtain ⟨_, rfl, h374⟩ := h370
    have h374' := h374
    obtain ⟨u371, u372, u373, rfl, h375, h376, h377⟩ := h374
    refine ln (qa (.cons_cons _ (.cons _ (.cons_cons _ nsl))) (ta 4 rfl (kl_bsK rfl (fun v378 H379 f380 r381 => ?_))))
    refine ln (qa (.cons_cons _ (.cons _ (.cons_cons _ nsl))) (ta 5 rfl (cm9 K353 H368 (fun c382 => ?_))))
    have o383 := OwnL.mono (K' := orHp K353 H368) o350 orL
    refine aL9 (m.cons.getD k nilCon) rfl rfl o383 r381 (RMono.mono (orC c382) ‹_›) (oc rfl (oc (Sl.oneCell ‹_›) (oc (Sl.oneCell ‹_›) (oc rfl (oc (Sl.oneCell ‹_›) oc_nil))))) (by (have h9 := congrArg List.length hi348; simp at h9; omega)) (by decide) (fun v384 H385 o386 f387 => ?_)
    have f388 := f387 B f351 (Nat.le_refl _)
    refine ln (qx rfl (kt_q 6 (.cons_cons _ (.cons _ (.cons_cons _ nsl))) rfl (by kernel_rfl) (fV rfl (ln (qq (ta 7 rfl (sB rfl rfl rfl (OwnL.oneCell ‹_›) (OwnL.cells ‹_›) ?_)))))))
    refine cg [bxS b365 [.int .i64 ((m.cons.getD k nilCon).kind), u359, u360, .int .i64 ((m.cons.getD k nilCon).bound), u361] 88, H385, bxS b333 [v335, v384] 26, bxS b5 [.slice none 0 0, .slice none 0 0] 26] rfl ?_
    refine ln (qx rfl (kt_end (by kernel_rfl) ?_))
    refine qc (cr (ic9 rfl rfl (by omega) ?_))
    refine mv rfl (ln (tk [H385, bxS b333 [v335, v384] 26, bxS b5 [.slice none 0 0, .slice none 0 0] 26] ?_))
    refine kq_roundK ((k + 1), (out ++ [(m.cons.getD k nilCon)]), v384, H385, (orHp K353 H368)) (by omega) (⟨by omega, (by rw [hi348, take_succ_getD nilCon (by omega)]), (fr_or f354 f369), o386, f388⟩) (pc 17 rfl pn) (pk [2, 3, 15, 16] rfl) rfl slr9
   ·refine ex9 (qc (cS (cr (kl_ldW rfl rfl (kl_stW (us := [v335, v352]) rfl rfl rfl rfl (oc (Sl.oneCell ‹_›) (oc (OwnL.oneCell ‹_›) oc_nil)) rfl ?_)))))
    refine cg [H349, bxS b333 [v335, v352] 26, bxS b5 [v335, v352] 26] rfl ?_
    refine ln (qc (rt (kq_frz H349 ?_)))
    refine kq_cmp H349 K353 (fun c389 => ?_)
    refine kq_cmp H336 (orHp H349 K353) (fun c390 => ?_)
    exact kq_retC rfl rfl rfl (orHp H336 (orHp H349 K353)) (fr_or f337 (fr_or f351 f354)) ⟨_, _, rfl, (Sl.mono ‹_› (fun b o h => orL b o h) (fun _ _ h => h)), (by have e9 : out = m.cons := (by rw [hi348, List.take_of_length_le (by omega)]); rw [← e9]; exact (Cons.mono' (OwnL.consK o350 c389) (fun b o h => orC c390 b o h)))⟩
  ·refine kl_mkL0 (R := ConV) rfl rfl (by omega) (by omega) (by decide) (fun v391 H392 f393 o394 => ?_)
   refine ln (qa nsl (ta 2 rfl (kl_call rfl rfl (copied_ok m.doms (by omega) ‹_›) (fun v395 H396 f397 o398 => ?_))))
   have h399 := OwnL.ints o398
   refine ln (qa nsl (ta 7 rfl (kl_bd rfl (cp (Sl.cells ‹_›) (cp (OwnL.cells ‹_›) cp_nil)) rfl ?_)))
   refine ln (qx rfl (ta 9 rfl (kl_stW (us := [v395, v391]) rfl rfl rfl rfl (oc (Sl.oneCell ‹_›) (oc (OwnL.oneCell ‹_›) oc_nil)) rfl ?_)))
   refine cg [H392, bxS b333 [v395, v391] 26, bxS b5 [.slice none 0 0, .slice none 0 0] 26] rfl ?_
   refine ln (qx rfl (kt_end (by kernel_rfl) ?_))
   refine qc (cS (cS (cr (fd9 rfl ‹_› (fun p400 a401 => ?_)))))
   refine ld rfl ‹_› (le9 rfl ‹_› (fun l402 => ?_))
   refine mv rfl (ln (qc (bl (kc_loopK (A := Nat × List Con × Value × Hp × Hp) (fun zz => (zz.1 ≤ m.cons.length) ∧ (zz.2.1 = m.cons.take zz.1) ∧ Fr B zz.2.2.2.2 ∧ OwnL 88 5 zz.2.2.2.1 zz.2.2.2.2 ConV zz.2.2.1 zz.2.1 ∧ Fr B zz.2.2.2.1) (fun zz => m.cons.length - zz.1) (fun zz => zz.2.2.2.2) (fun zz => [zz.2.2.2.1, bxS b333 [v395, zz.2.2.1] 26, bxS b5 [.slice none 0 0, .slice none 0 0] 26]) (fun zz => [(17, .int .i64 (zz.1 : Int))]) (0, ([]), v391, H392, noHp) (pk [2, 3, 15, 16] rfl) (pc 17 rfl pn) rfl ⟨Nat.zero_le _, rfl, (fr_no _), o394, f393⟩ ?_))))
   rintro ⟨k, out, v408, H405, K409⟩ hJ411
   obtain ⟨hk403, hi404, f410, o406, f407⟩ : (k ≤ m.cons.length) ∧ (out = m.cons.take k) ∧ Fr B K409 ∧ OwnL 88 5 H405 K409 ConV v408 out ∧ Fr B H405 := hJ411
   change KC _ _ (K409 :: _) [H405, bxS b333 [v395, v408] 26, bxS b5 [.slice none 0 0, .slice none 0 0] 26] _ ([(17, .int .i64 (k : Int))] ++ _)
   refine cS (cr (ls9 rfl rfl ?_))
   refine ln (qc (cS (ci9 rfl (fun c412 => ?_) (fun c412 => ?_))))
   ·refine sk (qc (cS (bl (cS (cr (kl_inC rfl rfl ‹_› (by omega) (fun p413 u415 u416 u417 h418 h419 h420 a414 => ?_)))))))
    refine kl_ldS rfl ‹_› rfl ?_
    refine kl_alloc (cs := [.int .i64 (0 : Int), .slice none 0 0, .slice none 0 0, .int .i64 (0 : Int), .slice none 0 0]) rfl (fun b421 hb422 => ?_)
    refine kl_stW (us := [.int .i64 ((m.cons.getD k nilCon).kind), u415, u416, .int .i64 ((m.cons.getD k nilCon).bound), u417]) rfl rfl rfl rfl (oc rfl (oc (Sl.oneCell ‹_›) (oc (Sl.oneCell ‹_›) (oc rfl (oc (Sl.oneCell ‹_›) oc_nil))))) rfl ?_
    refine cg [bxS b421 [.int .i64 ((m.cons.getD k nilCon).kind), u415, u416, .int .i64 ((m.cons.getD k nilCon).bound), u417] 88, H405, bxS b333 [v395, v408] 26, bxS b5 [.slice none 0 0, .slice none 0 0] 26] rfl ?_
    refine ln (qc (kc_tree (fun i => ([5, 7] : List Nat).contains i) [bxS b421 [.int .i64 ((m.cons.getD k nilCon).kind), u415, u416, .int .i64 ((m.cons.getD k nilCon).bound), u417] 88, bxS b333 [v395, v408] 26] (by kernel_rfl) ?_))
    refine kt_q 0 (.cons_cons _ (.cons _ (.cons_cons _ nsl))) rfl (by kernel_rfl) (fV rfl (ln (qq (kt_q 1 (.cons_cons _ (.cons _ (.cons_cons _ nsl))) rfl (by kernel_rfl) (ld rfl (at_box (T := 26) (cs := [v395, v408]) (off := 1) (fz := (0, 0))) (ln (qq (kt_q 2 (.cons_cons _ (.cons _ (.cons_cons _ nsl))) rfl (by kernel_rfl) ?_))))))))
    refine kl_ldS rfl (at_box (T := 88) (cs := [.int .i64 ((m.cons.getD k nilCon).kind), u415, u416, .int .i64 ((m.cons.getD k nilCon).bound), u417]) (off := 0) (fz := (0, 0))) rfl ?_
    refine ln (qq (ta 3 rfl (kl_call rfl rfl (copyConI_ok (m.cons.getD k nilCon) (h4 _ (getD_mem (by omega))) ‹_› ‹_› ‹_›) (fun v423 H424 f425 h426 => ?_))))
    obtain ⟨_, rfl, h430⟩ := h426
    have h430' := h430
    obtain ⟨u427, u428, u429, rfl, h431, h432, h433⟩ := h430
    refine ln (qa (.cons_cons _ (.cons _ (.cons_cons _ nsl))) (ta 4 rfl (kl_bsK rfl (fun v434 H435 f436 r437 => ?_))))
    refine ln (qa (.cons_cons _ (.cons _ (.cons_cons _ nsl))) (ta 5 rfl (cm9 K409 H424 (fun c438 => ?_))))
    have o439 := OwnL.mono (K' := orHp K409 H424) o406 orL
    refine aL9 (m.cons.getD k nilCon) rfl rfl o439 r437 (RMono.mono (orC c438) ‹_›) (oc rfl (oc (Sl.oneCell ‹_›) (oc (Sl.oneCell ‹_›) (oc rfl (oc (Sl.oneCell ‹_›) oc_nil))))) (by (have h9 := congrArg List.length hi404; simp at h9; omega)) (by decide) (fun v440 H441 o442 f443 => ?_)
    have f444 := f443 B f407 (Nat.le_refl _)
    refine ln (qx rfl (kt_q 6 (.cons_cons _ (.cons _ (.cons_cons _ nsl))) rfl (by kernel_rfl) (fV rfl (ln (qq (ta 7 rfl (sB rfl rfl rfl (OwnL.oneCell ‹_›) (OwnL.cells ‹_›) ?_)))))))
    refine cg [bxS b421 [.int .i64 ((m.cons.getD k nilCon).kind), u415, u416, .int .i64 ((m.cons.getD k nilCon).bound), u417] 88, H441, bxS b333 [v395, v440] 26, bxS b5 [.slice none 0 0, .slice none 0 0] 26] rfl ?_
    refine ln (qx rfl (kt_end (by kernel_rfl) ?_))
    refine qc (cr (ic9 rfl rfl (by omega) ?_))
    refine mv rfl (ln (tk [H441, bxS b333 [v395, v440] 26, bxS b5 [.slice none 0 0, .slice none 0 0] 26] ?_))
    refine kq_roundK ((k + 1), (out ++ [(m.cons.getD k nilCon)]), v440, H441, (orHp K409 H424)) (by omega) (⟨by omega, (by rw [hi404, take_succ_getD nilCon (by omega)]), (fr_or f410 f425), o442, f444⟩) (pc 17 rfl pn) (pk [2, 3, 15, 16] rfl) rfl slr9
   ·refine ex9 (qc (cS (cr (kl_ldW rfl rfl (kl_stW (us := [v395, v408]) rfl rfl rfl rfl (oc (Sl.oneCell ‹_›) (oc (OwnL.oneCell ‹_›) oc_nil)) rfl ?_)))))
    refine cg [H405, bxS b333 [v395, v408] 26, bxS b5 [v395, v408] 26] rfl ?_
    refine ln (qc (rt (kq_frz H405 ?_)))
    refine kq_cmp H405 K409 (fun c445 => ?_)
    refine kq_cmp H396 (orHp H405 K409) (fun c446 => ?_)
    exact kq_retC rfl rfl rfl (orHp H396 (orHp H405 K409)) (fr_or f397 (fr_or f407 f410)) ⟨_, _, rfl, (Sl.mono ‹_› (fun b o h => orL b o h) (fun _ _ h => h)), (by have e9 : out = m.cons := (by rw [hi404, List.take_of_length_le (by omega)]); rw [← e9]; exact (Cons.mono' (OwnL.consK o406 c445) (fun b o h => orC c446 b o h)))⟩
end
section
abbrev tupSt (k : Nat) : Prop := ∀ {l : Nat} {J : Nat → (Nat → Prop) → World → Prop} {Jx : (Nat → Prop) → World → Prop} (hJ : ∀ n, JK (J n)) (hJx : JK Jx) {xs : List (List Int)} {H1 Hd Kr Hx : Hp} {b0 : Nat} {pd py pf vd vx : Value} (ds x : List Int) (n : Nat) (hd : ∀ d ∈ ds, (0 : Int) ≤ d ∧ d ≤ 63) (hl : ds.length ≤ 1048576) (hk : x.length + k = ds.length)
    (hxs : ∀ q, q < (tupL (ds.drop x.length)).length → xs.getD (n + q) [] = x ++ (tupL (ds.drop x.length)).getD q []) (hlen : n + (tupL (ds.drop x.length)).length ≤ xs.length) (hR : Rounds Tryz.prog l [H1, Hd] xs J Jx) (a1 : At H1 pd [vd]) (hdd : Ints Hd vd ds) (a2 : At Kr py [.func (.yield l) #[] #[]]) (a3 : At Kr pf [.func (.func 134) #[] #[.pointer (some ⟨b0, 0, none⟩), pd, py, pf]]) (ho : OwnL 3 1 Hx noHp IntV vx x),
    SpecJ Tryz.prog 134 [.pointer (some ⟨b0, 0, none⟩), pd, py, pf] Kr [H1, Hd] [bxS b0 [vx] 23, Hx] (J n) (fun vq L1 j => (vq = .bool true ∧ j = J (n + (tupL (ds.drop x.length)).length) ∧ ∃ (vx2 : Value) (Hx2 : Hp), L1 = [bxS b0 [vx2] 23, Hx2] ∧ OwnL 3 1 Hx2 noHp IntV vx2 x) ∨ (vq = .bool false ∧ j = Jx ∧ L1 = []))

theorem tup_next {ds x : List Int} {xs : List (List Int)} {n i : Nat} (hxs : ∀ q, q < (tupL (ds.drop x.length)).length → xs.getD (n + q) [] = x ++ (tupL (ds.drop x.length)).getD q []) (hk : x.length < ds.length) (hi : i < (valsI (ds.getD x.length 0)).length) {q : Nat} (hq : q < (tupL (ds.drop (x.length + 1))).length) :
    xs.getD (n + (tupL (ds.drop (x.length + 1))).length * i + q) [] = (x ++ [(valsI (ds.getD x.length 0)).getD i 0]) ++ (tupL (ds.drop (x ++ [(valsI (ds.getD x.length 0)).getD i 0]).length)).getD q [] := by
  have e : ds.drop x.length = ds.getD x.length 0 :: ds.drop (x.length + 1) := by
    rw [List.drop_eq_getElem_cons hk]; congr 1; simp [List.getD_eq_getElem?_getD, hk]
  have h := hxs ((tupL (ds.drop (x.length + 1))).length * i + q) (by
    rw [e, tup_len]
    have : (tupL (ds.drop (x.length + 1))).length * (i + 1) ≤ (tupL (ds.drop (x.length + 1))).length * (valsI (ds.getD x.length 0)).length := Nat.mul_le_mul_left _ hi
    rw [Nat.mul_succ] at this
    omega)
  rw [Nat.add_assoc, h, e, tup_at _ _ hi hq]
  simp
theorem tup_room {ds x : List Int} {n N : Nat} (h : n + (tupL (ds.drop x.length)).length ≤ N) (hk : x.length < ds.length) {k : Nat} (hi : k < (valsI (ds.getD x.length 0)).length) : n + (tupL (ds.drop (x.length + 1))).length * k + (tupL (ds.drop (x.length + 1))).length ≤ N := by
  have e : ds.drop x.length = ds.getD x.length 0 :: ds.drop (x.length + 1) := by
    rw [List.drop_eq_getElem_cons hk]; congr 1; simp [List.getD_eq_getElem?_getD, hk]
  rw [e, tup_len] at h
  have : (tupL (ds.drop (x.length + 1))).length * (k + 1) ≤ (tupL (ds.drop (x.length + 1))).length * (valsI (ds.getD x.length 0)).length := Nat.mul_le_mul_left _ hi
  rw [Nat.mul_succ] at this
  omega
theorem tup_all {ds x : List Int} (hk : x.length < ds.length) {k : Nat} (hi : k = (valsI (ds.getD x.length 0)).length) : (tupL (ds.drop x.length)).length = (tupL (ds.drop (x.length + 1))).length * k := by
  have e : ds.drop x.length = ds.getD x.length 0 :: ds.drop (x.length + 1) := by
    rw [List.drop_eq_getElem_cons hk]; congr 1; simp [List.getD_eq_getElem?_getD, hk]
  rw [e, tup_len, hi]
theorem tup_step (k : Nat) (ih : ∀ j, j < k → tupSt j) : tupSt k := by
  intro l J Jx hJ hJx xs H1 Hd Kr Hx b0 pd py pf vd vx ds x n hd hl hk hxs hlen hR a1 hdd a2 a3 ho
  have hol := OwnL.ints ho
  refine specJ_of (hJ n) Tryz.func134 rfl rfl rfl (fun B => ?_)
  refine cS ?_
  refine cr ?_
  refine sg rfl ?_
  refine ln ?_
  refine qc ?_
  refine cS ?_
  refine cS ?_
  refine cr ?_
  refine lB rfl rfl ?_
  refine lL rfl ho (fun l1 => ?_)
  refine ld rfl ‹_› ?_
  refine le9 rfl ‹_› (fun l2 => ?_)
  refine eq9 rfl rfl ?_
  refine ln ?_
  refine qc ?_
  refine ci9 rfl (fun c3 => ?_) (fun c3 => ?_)
  · skip
    refine cS ?_
    refine kc_regI ?_
    refine ki_ld rfl a2 ?_
    refine ki_ldB rfl rfl ?_
    have e0 : ds.drop x.length = [] := List.drop_eq_nil_of_le (by omega)
    have e1 : (tupL (ds.drop x.length)).length = 1 := by rw [e0]; rfl
    have e2 := hxs 0 (by omega)
    have e3 : xs.getD n [] = x := by rw [e0] at e2; simpa [tupL] using e2
    refine ki_yield (Hx := Hx) hJx hR rfl rfl (by omega) (by rw [e3]; exact OwnL.ints ho) ?_ ?_
    · skip
      refine ki_as rfl (ki_nil ?_)
      refine qc ?_
      refine rt ?_
      exact kq_retJ1 rfl rfl [bxS b0 [vx] 23, Hx] (.inl ⟨rfl, by rw [e1], vx, Hx, rfl, ho⟩)
    · skip
      refine ki_as rfl (ki_nil ?_)
      refine qc ?_
      refine rt ?_
      exact kq_retJ1 rfl rfl [] (.inr ⟨rfl, rfl, rfl⟩)
  · skip
    refine sk ?_
    refine qc ?_
    refine cS ?_
    refine cS ?_
    refine cr ?_
    refine ld rfl ‹_› ?_
    refine lB rfl rfl ?_
    refine lL rfl ho (fun l4 => ?_)
    refine kl_inI rfl rfl ‹_› (by omega) (fun p5 a6 => ?_)
    refine ld rfl ‹_› ?_
    refine kl_call rfl rfl (valuesOf_ok (ds.getD x.length 0) (hd _ (getD_mem (by omega)))) (fun v7 H8 f9 h10 => ?_)
    refine le9 rfl ‹_› (fun l11 => ?_)
    refine mv rfl ?_
    refine ln ?_
    refine qc ?_
    refine bl ?_
    have hk1 : x.length < ds.length := by omega
    refine kc_take [bxS b0 [vx] 23, Hx] ?_
    refine kc_loopX (A := Nat × Value × Hp) (fun zz => sj Kr (J (n + (tupL (ds.drop (x.length + 1))).length * zz.1)) (hJ _)) (fun zz => zz.1 ≤ (valsI (ds.getD x.length 0)).length ∧ OwnL 3 1 zz.2.2 noHp IntV zz.2.1 x) (fun zz => (valsI (ds.getD x.length 0)).length - zz.1) (fun zz => [bxS b0 [zz.2.1] 23, zz.2.2]) (fun zz => [(22, .int .i64 (zz.1 : Int))]) (0, vx, Hx) (pk [0, 3, 20, 21] rfl) (pc 22 rfl pn) rfl ⟨Nat.zero_le _, ho⟩ ?_
    rintro ⟨i, vi, Hi⟩ ⟨hi1, hi2⟩
    have hi1 : i ≤ (valsI (ds.getD x.length 0)).length := hi1
    have hi2 : OwnL 3 1 Hi noHp IntV vi x := hi2
    change KC (⟨_, _, _, sj Kr (J (n + (tupL (ds.drop (x.length + 1))).length * i)) (hJ _), _, _, _⟩ : Cx) _ _ [bxS b0 [vi] 23, Hi] _ ([(22, .int .i64 (i : Int))] ++ _)
    refine cS ?_
    refine cr ?_
    refine ls9 rfl rfl ?_
    refine ln ?_
    refine qc ?_
    refine cS ?_
    refine ci9 rfl (fun c12 => ?_) (fun c12 => ?_)
    · skip
      refine sk ?_
      refine qc ?_
      refine cS ?_
      refine bl ?_
      refine cS ?_
      refine cr ?_
      refine kl_inI rfl rfl ‹_› (by omega) (fun p13 a14 => ?_)
      refine ld rfl ‹_› ?_
      refine sg rfl ?_
      refine ln ?_
      refine qc ?_
      refine cS ?_
      refine cr ?_
      refine lB rfl rfl ?_
      refine mv rfl ?_
      refine bs9 rfl rfl rfl (by decide) (ca rfl ca_nil) (fun v15 H16 f17 r18 s19 => ?_)
      have h20 : Ints H16 v15 [((valsI (ds.getD x.length 0)).getD i 0)] := litInts (xs := [((valsI (ds.getD x.length 0)).getD i 0)]) (by simpa using s19)
      refine aL9 ((valsI (ds.getD x.length 0)).getD i 0) rfl rfl hi2 ‹_› rfl (oc rfl oc_nil) (by simp; omega) (by decide) (fun v21 H22 o23 f24 => ?_)
      refine sB rfl rfl rfl (OwnL.oneCell ‹_›) (OwnL.cells ‹_›) ?_
      refine cg [bxS b0 [v21] 23, H22] rfl ?_
      refine ln ?_
      refine qc ?_
      refine cS ?_
      refine cS ?_
      refine cr ?_
      refine ld rfl ‹_› ?_
      refine kl_callJ [H8] rfl rfl (fun Kr2 hk hks => ih (k - 1) (by omega) hJ hJx ds (x ++ [((valsI (ds.getD x.length 0)).getD i 0)]) (n + (tupL (ds.drop (x.length + 1))).length * i) hd hl (by simp; omega) (by intro q hq; exact tup_next hxs hk1 (by omega) (by simpa using hq)) (by have := tup_room hlen hk1 (k := i) (by omega); simpa using this) hR a1 hdd (At.mono a2 hk) (At.mono a3 hk) o23) (fr1 f9) (fun v26 L27 j28 h29 h30 => ?_)
      rcases h30 with ⟨rfl, rfl, v32, H33, rfl, o31⟩ | ⟨rfl, rfl, rfl⟩
      · skip
        refine nm ?_
        refine nt9 rfl ?_
        refine ln ?_
        refine kq_normI ?_
        refine qc ?_
        refine cd9 rfl (fun hc => absurd hc (by decide)) (fun hc => ?_)
        refine sk ?_
        refine qc ?_
        refine cr ?_
        refine lB rfl rfl ?_
        refine lB rfl rfl ?_
        refine lL rfl o31 (fun l34 => ?_)
        refine sb9 rfl rfl (by omega) ?_
        have e37 : (((x ++ [((valsI (ds.getD x.length 0)).getD i 0)]).length : Int) - (1 : Int)) = (((Int.toNat (((x ++ [((valsI (ds.getD x.length 0)).getD i 0)]).length : Int) - (1 : Int))) : Nat) : Int) := by first | omega | (simp only [List.length_append, List.length_cons, List.length_nil]; omega)
        refine kl_slTakeL (i := (Int.toNat (((x ++ [((valsI (ds.getD x.length 0)).getD i 0)]).length : Int) - (1 : Int)))) rfl (by rw [← e37]; rfl) o31 (by first | omega | (simp; omega)) (fun u35 o36 => ?_)
        refine sB rfl rfl rfl (OwnL.oneCell ‹_›) (OwnL.cells ‹_›) ?_
        refine cg [bxS b0 [u35] 23, H33] rfl ?_
        refine ln ?_
        refine qc ?_
        refine cr ?_
        refine ic9 rfl rfl (by omega) ?_
        refine mv rfl ?_
        refine ln ?_
        refine kq_roundX (i + 1, u35, H33) (sj_eq (by rw [Nat.mul_succ]; simp; omega)) (by dsimp only; omega) ⟨by dsimp only; omega, OwnL.cast (by simp) o36⟩ (pc 22 rfl pn) (pk [0, 3, 20, 21] rfl) rfl
      · skip
        refine nm ?_
        refine nt9 rfl ?_
        refine ln ?_
        refine kq_normI ?_
        refine qc ?_
        refine cd9 rfl (fun hc => ?_) (fun hc => absurd hc (by decide))
        refine cS ?_
        refine cr ?_
        refine sg rfl ?_
        refine ln ?_
        refine qc ?_
        refine rt ?_
        exact kq_retJ1 rfl rfl [] (.inr ⟨rfl, rfl, rfl⟩)
    · skip
      refine ex9 ?_
      refine qc ?_
      refine cS ?_
      refine cr ?_
      refine sg rfl ?_
      refine ln ?_
      refine qc ?_
      refine rt ?_
      exact kq_retJ1 rfl rfl [bxS b0 [vi] 23, Hi] (.inl ⟨rfl, congrArg J (by have := tup_all (x := x) hk1 (k := i) (by omega); rw [this]), vi, Hi, rfl, hi2⟩)
theorem tup_ok (k : Nat) : tupSt k := by
  induction k using Nat.strongRecOn with
  | _ k ih => exact tup_step k ih
theorem tup118_ok {l : Nat} {J : Nat → (Nat → Prop) → World → Prop} {Jx : (Nat → Prop) → World → Prop} (hJ : ∀ n, JK (J n)) (hJx : JK Jx) {H1 Hd : Hp} {pd vd : Value} (ds : List Int) (hd : ∀ d ∈ ds, (0 : Int) ≤ d ∧ d ≤ 63) (hl : ds.length ≤ 1048576) (hR : Rounds Tryz.prog l [H1, Hd] (tupL ds) J Jx) (a1 : At H1 pd [vd]) (hdd : Ints Hd vd ds) :
    SpecJ Tryz.prog 133 [.func (.yield l) #[] #[], pd] noHp [H1, Hd] [] (J 0) (fun vq L1 j => j = J (tupL ds).length ∨ j = Jx) := by
  refine specJ_of (hJ 0) Tryz.func133 rfl rfl rfl (fun B => ?_)
  refine cS ?_
  refine cr ?_
  refine kl_box rfl rfl (fun p1 H2 f3 a4 => ?_)
  refine ln ?_
  refine qc ?_
  refine cS ?_
  refine cr ?_
  refine ld rfl ‹_› ?_
  refine le9 rfl ‹_› (fun l5 => ?_)
  refine kl_mkL0 (R := IntV) rfl rfl (by omega) (by omega) (by decide) (fun v6 H7 f8 o9 => ?_)
  refine kl_alloc (cs := [.slice none 0 0]) rfl (fun b10 hb11 => ?_)
  refine sB rfl rfl rfl (OwnL.oneCell ‹_›) (OwnL.cells ‹_›) ?_
  refine cg [bxS b10 [v6] 23, H7] rfl ?_
  refine ln ?_
  refine qc ?_
  refine cS ?_
  refine cr ?_
  refine kl_alloc (cs := [.nilFunc]) rfl (fun b12 hb13 => ?_)
  refine ln ?_
  refine qc ?_
  refine cS ?_
  refine cr ?_
  refine kl_mkf rfl ?_
  refine sB rfl rfl rfl rfl rfl ?_
  refine cg [bxS b12 [.func (.func 134) #[] #[.pointer (some ⟨b10, 0, none⟩), pd, p1, .pointer (some ⟨b12, 0, none⟩)]] 143, bxS b10 [v6] 23, H7] rfl ?_
  refine fZ (bxS b12 [.func (.func 134) #[] #[.pointer (some ⟨b10, 0, none⟩), pd, p1, .pointer (some ⟨b12, 0, none⟩)]] 143) ?_
  have a3 : At (bxS b12 [.func (.func 134) #[] #[.pointer (some ⟨b10, 0, none⟩), pd, p1, .pointer (some ⟨b12, 0, none⟩)]] 143) (.pointer (some ⟨b12, 0, none⟩)) [.func (.func 134) #[] #[.pointer (some ⟨b10, 0, none⟩), pd, p1, .pointer (some ⟨b12, 0, none⟩)]] := At.sing (cs := #[.func (.func 134) #[] #[.pointer (some ⟨b10, 0, none⟩), pd, p1, .pointer (some ⟨b12, 0, none⟩)]])
  refine ln ?_
  refine qc ?_
  refine cr ?_
  refine ld rfl ‹_› ?_
  refine kl_callJ [H2, (bxS b12 [.func (.func 134) #[] #[.pointer (some ⟨b10, 0, none⟩), pd, p1, .pointer (some ⟨b12, 0, none⟩)]] 143)] rfl rfl (fun Kr2 hk hks => tup_ok ds.length hJ hJx ds [] 0 hd hl (by simp) (by intro q hq; simp) (by simp) hR a1 hdd (At.mono a4 (hks _ (.head _))) (At.mono a3 (hks _ (.tail _ (.head _)))) o9) (frc f3 (fr1 (fr_sing ‹_›))) (fun v14 L15 j16 h17 h18 => ?_)
  rcases h18 with ⟨rfl, rfl, v20, H21, rfl, o19⟩ | ⟨rfl, rfl, rfl⟩
  · skip
    refine nm ?_
    refine ln ?_
    refine kq_normI ?_
    exact kq_retJ0 rfl [] (.inl (by simp))
  · skip
    refine nm ?_
    refine ln ?_
    refine kq_normI ?_
    exact kq_retJ0 rfl [] (.inr rfl)
theorem tuples_it {p vd : Value} {H1 Hd : Hp} (ds : List Int) (hd : ∀ d ∈ ds, (0 : Int) ≤ d ∧ d ≤ 63) (hl : ds.length ≤ 1048576) (a1 : At H1 p [vd]) (hdd : Ints Hd vd ds) : ItSpec Tryz.prog 133 [p] [H1, Hd] (tupL ds) := fun l J Jx hJ hJx hR W hA hW =>
  (tup118_ok (fun n => ⟨hJ n⟩) ⟨hJx⟩ ds hd hl hR a1 hdd W (fun _ h => by cases h) List.Pairwise.nil (agree_no W) hA (hJ 0 hW (Nat.le_refl _) (fun _ _ _ => rfl) (Io.refl _) (fun b hb => by
    rcases hb with hb | ⟨_, h, _⟩
    · exact absurd rfl hb
    · cases h))).mono fun e W' he => by
    cases e with
    | returned v =>
      obtain ⟨_, _, _, _, L1, j, _, _, hj, hw, hp⟩ := he
      have hw' := hj.ok hw (Nat.le_refl _) (fun _ _ _ => rfl) (Io.refl _) (D' := fun _ => False) (fun _ h => h.elim)
      refine ⟨v, rfl, ?_⟩
      rcases hp with rfl | rfl
      · exact .inl hw'
      · exact .inr hw'
    | panicked c => exact he.elim
    | outgrown => exact he.elim
end
section
theorem tuples_ok {Hds : Hp} {vds : Value} (ds : List Int) (hds : Ints Hds vds ds) : Spec Tryz.prog 91 [vds] [Hds] (fun Hq vq => ∃ p : Value, vq = .func (.func 133) #[] #[p] ∧ At Hq p [vds]) := by
 refine spec_of Tryz.func91 rfl rfl rfl (fun B => ?_)
 refine cS (cr (kl_box rfl (Sl.cells ‹_›) (fun p1 H2 f3 a4 => ?_)))
 refine sg rfl (ln (qc (cS (cr (kl_mkf rfl ?_)))))
 refine sg rfl (ln (qc (rt ?_)))
 exact kq_ret rfl rfl H2 f3 ⟨_, rfl, a4⟩
theorem filter_ok {Hcv : Hp} {vcv : Value} {Hca : Hp} {vca : Value} {Hcr : Hp} {vcr : Value} {Hds : Hp} {vds : Value} (c : Con) (ds : List Int) (hC : ConOk c ds.length) (hd : DomV ds) (hcv : Ints Hcv vcv c.vars) (hca : Ints Hca vca c.args) (hcr : Rows Hcr vcr c.rows) (hds : Ints Hds vds ds) : Spec Tryz.prog 174 [.agg #[.int .i64 c.kind, vcv, vca, .int .i64 c.bound, vcr], vds] [Hcv, Hca, Hcr, Hds] (fun Hq vq => Ints Hq vq (filtL c ds)) := by
 have h0 := hC.one
 refine spec_ofR Tryz.func174 rfl rfl rfl (fun B => ?_)
 refine cS (cr (kl_box rfl rfl (fun p1 H2 f3 a4 => ?_)))
 refine sg rfl (ln (qc (cS (cr (fd9 rfl ‹_› (fun p5 a6 => ?_))))))
 refine ld rfl ‹_› (le9 rfl ‹_› (fun l7 => ?_))
 refine kl_mkL (R := IntV) (0 : Int) rfl rfl (by omega) (by decide) (by exact rfl) (fun v8 H9 f10 o11 => ?_)
 refine kl_alloc (cs := [.slice none 0 0]) rfl (fun b12 hb13 => ?_)
 refine sB rfl rfl rfl (OwnL.oneCell ‹_›) (OwnL.cells ‹_›) ?_
 refine ln (qc (cS (cS (cr (kl_ldS rfl ‹_› rfl ?_)))))
 refine mv rfl (kl_call rfl rfl (word_ok c ds hC.vars (by have := hC.one; omega) ‹_› ‹_› ‹_› ‹_›) (fun v14 H15 f16 h17 => ?_))
 refine kl_call rfl rfl (tuples_ok (wordL c.vars ds) ‹_›) (fun v18 H19 f20 h21 => ?_)
 obtain ⟨p22, rfl, a23⟩ := h21
 refine ln (qc (bl (kc_range (A := List Int × Value × Hp) (fun zz => [bxS b12 [zz.2.1] 23, zz.2.2]) (fun n zz => (zz.1 = suppV c ((tupL (wordL c.vars ds)).take n)) ∧ OwnL 3 1 zz.2.2 noHp IntV zz.2.1 zz.1 ∧ Fr B zz.2.2) (fun _ _ => False) ((List.replicate c.vars.length (0 : Int)), v8, H9) rfl (tuples_it (wordL c.vars ds) (word_dom hC hd) (by have := hC.one; simp [wordL]; omega) a23 ‹_›) (pk [1, 2, 4, 5] rfl) rfl rfl ⟨(suppV_0 c).symm, o11, f10⟩ ?_ ?_ (fun _ _ _ _ h => h.elim))))
 ·rintro l29 m30 D31 r32 H33 v34 n ⟨left, v25, H26⟩ hk35 hJ36 h37
  obtain ⟨hi24, o27, f28⟩ : (left = suppV c ((tupL (wordL c.vars ds)).take n)) ∧ OwnL 3 1 H26 noHp IntV v25 left ∧ Fr B H26 := hJ36
  obtain ⟨t, ht⟩ : ∃ t, (tupL (wordL c.vars ds)).getD n [] = t := ⟨_, rfl⟩
  rw [ht] at h37
  have hS : SatOk c t := (tup_sat hC rfl (by rw [← ht]; exact getD_mem hk35))
  have hT := take_succ_getD [] hk35
  rw [ht] at hT
  change KC _ _ _ (rdy l29 r32 :: [bxS b12 [v25] 23, H26]) _ _
  refine cr (sg rfl (ln (kq_begin (r := r32) ?_)))
  refine bl (cS (cr (kl_ldS rfl ‹_› rfl ?_)))
  refine mv rfl (cP rfl rfl (satisfied_ok c t hS ‹_› ‹_› ‹_› ‹_›) ?_)
  refine ln (qc (cd9 rfl (fun c39 => ?_) (fun c39 => ?_)))
  ·have c39r := c39
   try simp only [smpE] at c39
   refine cS (cr (mv rfl (le9 rfl ‹_› (fun l40 => ?_))))
   refine mv rfl (ln (qc (bl (kc_loopL (A := Nat × List Int × Value × Hp) (fun zz => (zz.1 ≤ t.length) ∧ (zz.2.1 = suppM c ((tupL (wordL c.vars ds)).take n) t zz.1) ∧ OwnL 3 1 zz.2.2.2 noHp IntV zz.2.2.1 zz.2.1 ∧ Fr B zz.2.2.2) (fun zz => t.length - zz.1) (fun zz => [bsy l29 r32, bxS b12 [zz.2.2.1] 23, zz.2.2.2]) (fun zz => [(26, .int .i64 (zz.1 : Int))]) (0, left, v25, H26) (pk [1, 2, 4, 5, 6, 20, 21, 22, 23, 24, 25] rfl) (pc 26 rfl pn) rfl ⟨Nat.zero_le _, (by rw [hi24, suppM_0]), o27, f28⟩ ?_))))
   rintro ⟨k, left1, v46, H43⟩ hJ47
   obtain ⟨hk41, hi42, o44, f45⟩ : (k ≤ t.length) ∧ (left1 = suppM c ((tupL (wordL c.vars ds)).take n) t k) ∧ OwnL 3 1 H43 noHp IntV v46 left1 ∧ Fr B H43 := hJ47
   change KC _ _ (_) [bsy l29 r32, bxS b12 [v46] 23, H43] _ ([(26, .int .i64 (k : Int))] ++ _)
   have hln : left1.length = c.vars.length := (by rw [hi42]; exact suppM_len c _ t k)
   refine cS (cr (ls9 rfl rfl ?_))
   refine ln (qc (cS (ci9 rfl (fun c48 => ?_) (fun c48 => ?_))))
   ·have hv1 := hS.val.at (k := k) (by omega)
    have hl1 := hS.len
    refine sk (qc (cS (bl (cS (cr (mv rfl (kl_inI rfl rfl ‹_› (by omega) (fun p49 a50 => ?_))))))))
    refine ld rfl ‹_› (sg rfl (sg rfl (ln (qc (kc_draw 8 [true, true, true, true, true, true, true, true, false] (by kernel_rfl) (by kernel_rfl) ?_)))))
    refine lB rfl rfl (mv rfl (kl_ixLn rfl rfl ‹_› (by omega) (fun p51 q52 => ?_)))
    refine kl_ldLI rfl ‹_› ‹_› (by omega) ?_
    refine mv rfl (kl_shl rfl rfl (by omega) ?_)
    refine kl_or rfl rfl ?_
    refine kl_ixLn rfl rfl ‹_› (by omega) (fun p53 q54 => ?_)
    refine kl_stL (ior (left1.getD k 0) (ishl (1 : Int) (t.getD k 0))) rfl rfl ‹_› o44 (by omega) rfl rfl rfl (fun H55 o56 f57 => ?_)
    have f58 := f57 _ f45
    refine ln (qc (cr (ic9 rfl rfl (by omega) ?_)))
    refine mv rfl (ln (rL ((k + 1), (left1.set k (ior (left1.getD k 0) (ishl (1 : Int) (t.getD k 0)))), v46, H55) (by omega) (⟨by omega, (by rw [hi42]; exact suppM_stepO ‹_› hS (by omega)), o56, f58⟩) (pc 26 rfl pn) (pk [1, 2, 4, 5, 6, 20, 21, 22, 23, 24, 25] rfl) rfl slr9))
   ·refine ex9 (tk [bsy l29 r32, bxS b12 [v46] 23, H43] ?_)
    exact kq_rend (invx := fun _ _ => False) (left1, v46, H43) ⟨(by rw [hT]; first | exact supp_stepT hi42 hS (by omega) | (rw [suppV_no ‹_›]; exact hi24)), o44, f45⟩ rfl inferInstance slr9
  ·have c39r := c39
   try simp only [smpE] at c39
   refine sk (tk [bsy l29 r32, bxS b12 [v25] 23, H26] ?_)
   exact kq_rend (invx := fun _ _ => False) (left, v25, H26) ⟨(by rw [hT]; first | exact supp_stepT hi42 hS (by omega) | (rw [suppV_no ‹_›]; exact hi24)), o27, f28⟩ rfl inferInstance slr9
 ·rintro D59 ⟨left, v25, H26⟩ hD60 hJ61
  obtain ⟨hi24, o27, f28⟩ : (left = suppV c ((tupL (wordL c.vars ds)).take ((tupL (wordL c.vars ds)).length))) ∧ OwnL 3 1 H26 noHp IntV v25 left ∧ Fr B H26 := hJ61
  change KQ _ _ ([bxS b12 [v25] 23, H26]) _ _
  have hll : left.length = c.vars.length := (by rw [hi24]; exact suppV_len c _)
  refine qc (cS (cr (mv rfl (kl_callL rfl rfl (copied_ok ds (by have := hC.one; omega) ‹_›) (fun v62 H63 f64 o65 => ?_)))))
  refine sg rfl (ln (qc (cS (cS (cr (fd9 rfl ‹_› (fun p66 a67 => ?_)))))))
  refine ld rfl ‹_› (le9 rfl ‹_› (fun l68 => ?_))
  refine mv rfl (ln (qc (bl (kc_loopL (A := Nat × List Int × Hp) (fun zz => (zz.1 ≤ c.vars.length) ∧ (zz.2.1 = filtTo c ds left zz.1) ∧ OwnL 3 1 zz.2.2 noHp IntV v62 zz.2.1 ∧ Fr B zz.2.2) (fun zz => c.vars.length - zz.1) (fun zz => [zz.2.2, bxS b12 [v25] 23, H26]) (fun zz => [(45, .int .i64 (zz.1 : Int))]) (0, ds, H63) (pk [4, 5, 9, 43, 44] rfl) (pc 45 rfl pn) rfl ⟨Nat.zero_le _, rfl, o65, f64⟩ ?_))))
  rintro ⟨k2, out, H71⟩ hJ74
  obtain ⟨hk69, hi70, o72, f73⟩ : (k2 ≤ c.vars.length) ∧ (out = filtTo c ds left k2) ∧ OwnL 3 1 H71 noHp IntV v62 out ∧ Fr B H71 := hJ74
  change KC _ _ (_) [H71, bxS b12 [v25] 23, H26] _ ([(45, .int .i64 (k2 : Int))] ++ _)
  have hln : out.length = ds.length := (by rw [hi70]; exact filtTo_len c ds left k2)
  refine cS (cr (ls9 rfl rfl ?_))
  refine ln (qc (cS (ci9 rfl (fun c75 => ?_) (fun c75 => ?_))))
  ·have hv2 := hC.at (k := k2) (by omega)
   refine sk (qc (cS (bl (cS (cr (mv rfl (kl_inI rfl rfl ‹_› (by omega) (fun p76 a77 => ?_))))))))
   refine ld rfl ‹_› (sg rfl (sg rfl (ln (qc (cr (mv rfl (mv rfl (lB rfl rfl (mv rfl ?_)))))))))
   refine kl_ixLn rfl rfl ‹_› (by omega) (fun p78 q79 => ?_)
   refine kl_ldLI rfl ‹_› ‹_› (by omega) ?_
   refine kl_ixL rfl rfl ‹_› (by omega) (by omega) (fun p80 q81 => ?_)
   refine kl_stL (left.getD k2 0) rfl rfl ‹_› o72 (by omega) rfl rfl rfl (fun H82 o83 f84 => ?_)
   have f85 := f84 _ f73
   refine ln (qc (cr (ic9 rfl rfl (by omega) ?_)))
   refine mv rfl (ln (rL ((k2 + 1), (out.set ((c.vars.getD k2 0).toNat) (left.getD k2 0)), H82) (by omega) (⟨by omega, (by rw [hi70, filtTo_succ]), o83, f85⟩) (pc 45 rfl pn) (pk [4, 5, 9, 43, 44] rfl) rfl slr9))
  ·refine ex9 (qc (cS (cr (mv rfl (sg rfl (ln (qc (rt ?_))))))))
   have e9 : out = filtL c ds := by rw [hi70, hi24, List.take_length, show k2 = c.vars.length from by omega]; rfl
   exact kq_retR (rss1 rfl (rs_tmp rfl)) H71 f73 (e9 ▸ OwnL.ints o72) (df1 hD60)
theorem isSol1_ok {Hcv : Hp} {vcv : Value} {Hca : Hp} {vca : Value} {Hcr : Hp} {vcr : Value} {Hx : Hp} {vx : Value} {Hpx : Hp} {ptrpx : Value} (c : Con) (x : List Int) (hC : ConOk c x.length) (hX : Vals x) (hcv : Ints Hcv vcv c.vars) (hca : Ints Hca vca c.args) (hcr : Rows Hcr vcr c.rows) (hx : Ints Hx vx x) (apx : At Hpx ptrpx [vx]) : SpecP Tryz.prog 138 [.agg #[.int .i64 c.kind, vcv, vca, .int .i64 c.bound, vcr], ptrpx] [Hcv, Hca, Hcr, Hx, Hpx] (.bool (!(conAt x c))) := by
 refine spec_of Tryz.func138 rfl rfl rfl (fun B => ?_)
 refine cS (cr (kl_box rfl rfl (fun p1 H2 f3 a4 => ?_)))
 refine sg rfl (ln (qc (cS (cr (kl_ldS rfl ‹_› rfl ?_)))))
 refine ld rfl ‹_› (cP rfl rfl (holds_ok c x hC hX ‹_› ‹_› ‹_› ‹_›) ?_)
 refine nt9 rfl (sg rfl (ln (qc (rt (kq_retP rfl rfl (congrArg Value.bool ?_))))))
 rfl
theorem isSol_ok {Hmd : Hp} {vmd : Value} {Hmc : Hp} {vmc : Value} {Hx : Hp} {vx : Value} (m : Mod) (x : List Int) (hM : MOk m) (hl : x.length = m.doms.length) (hX : Vals x) (hmd : Ints Hmd vmd m.doms) (hmc : Cons Hmc vmc m.cons) (hx : Ints Hx vx x) : SpecP Tryz.prog 93 [.agg #[vmd, vmc], vx] [Hmd, Hmc, Hx] (.bool (isSolB m x)) := by
 refine spec_of Tryz.func93 rfl rfl rfl (fun B => ?_)
 refine cS (cr (kl_box rfl rfl (fun p1 H2 f3 a4 => ?_)))
 refine kl_box rfl (Sl.cells ‹_›) (fun p5 H6 f7 a8 => ?_)
 refine sg rfl (ln (qc (cS (cS (cr (ld rfl ‹_› (le9 rfl ‹_› (fun l9 => ?_))))))))
 refine mv rfl (ln (qc (bl (kc_loop0 (A := Nat) (fun zz => (zz ≤ x.length) ∧ (inDomTo m x zz = true)) (fun zz => x.length - zz) (fun zz => [(9, .int .i64 (zz : Int))]) (0) (pk [2, 3, 7, 8] rfl) (pc 9 rfl pn) ⟨Nat.zero_le _, rfl⟩ ?_))))
 rintro k hJ12
 obtain ⟨hk10, hi11⟩ : (k ≤ x.length) ∧ (inDomTo m x k = true) := hJ12
 change KC _ _ (_) _ _ ([(9, .int .i64 (k : Int))] ++ _)
 refine cS (cr (ls9 rfl rfl ?_))
 refine ln (qc (cS (ci9 rfl (fun c13 => ?_) (fun c13 => ?_))))
 ·have hx1 := hX.at (k := k) (by omega)
  refine sk (qc (cS (bl (cS (cr (mv rfl (kl_inI rfl rfl ‹_› (by omega) (fun p14 a15 => ?_))))))))
  refine ld rfl ‹_› (sg rfl (sg rfl (ln (qc (cS (cr (fd9 rfl ‹_› (fun p16 a17 => ?_))))))))
  refine ld rfl ‹_› (mv rfl (kl_inI rfl rfl ‹_› (by omega) (fun p18 a19 => ?_)))
  refine ld rfl ‹_› (mv rfl (cP rfl rfl (has_ok (m.doms.getD k 0) (x.getD k 0) (by omega)) ?_))
  refine nt9 rfl (ln (qc (cd9 rfl (fun c20 => ?_) (fun c20 => ?_))))
  ·have c20r := c20
   try simp only [smpE] at c20
   refine cS (cr (sg rfl (ln (qc (rt (kq_retP rfl rfl (congrArg Value.bool ?_)))))))
   exact inDom_no (k := k) (by omega) ‹_›
  ·have c20r := c20
   try simp only [smpE] at c20
   refine sk (qc (cr (ic9 rfl rfl (by omega) ?_)))
   refine mv rfl (ln (kq_round0 ((k + 1)) (by omega) (⟨by omega, inDom_step hi11 ‹_›⟩) (pc 9 rfl pn) (pk [2, 3, 7, 8] rfl) slr9))
 ·refine ex9 (qc (cS (cr (fd9 rfl ‹_› (fun p21 a22 => ?_)))))
  refine ld rfl ‹_› (kl_mkf rfl ?_)
  refine cP rfl rfl (cf_con_ok m.cons (fun x22 => !(conAt x x22)) ‹_› (fun _ _ _ ax22 bx22 rx22 x22 hmx22 hax22 hbx22 hrx22 => isSol1_ok x22 x (by rw [hl]; exact ⟨hM.cm hmx22⟩) hX hax22 hbx22 hrx22 ‹_› ‹_›)) ?_
  refine nt9 rfl (sg rfl (ln (qc (rt (kq_retP rfl rfl (congrArg Value.bool ?_))))))
  exact inDom_yes hi11 (by omega) (by simp [metB, List.all_eq_not_any_not])
end
section
theorem filtered_ok {Hmd : Hp} {vmd : Value} {Hmc : Hp} {vmc : Value} {Hds : Hp} {vds : Value} (m : Mod) (ds : List Int) (hM : MOk m) (hd : DOk m.doms.length ds) (hmd : Ints Hmd vmd m.doms) (hmc : Cons Hmc vmc m.cons) (hds : Ints Hds vds ds) : Spec Tryz.prog 136 [.agg #[vmd, vmc], vds] [Hmd, Hmc, Hds] (fun Hq vq => Ints (orHp Hds Hq) vq (filtA m ds)) := by
 refine spec_of Tryz.func136 rfl rfl rfl (fun B => ?_)
 refine cS (cr (kl_box rfl rfl (fun p1 H2 f3 a4 => ?_)))
 refine sg rfl (ln (qc (cS (cS (cr (fd9 rfl ‹_› (fun p5 a6 => ?_)))))))
 refine ld rfl ‹_› (le9 rfl ‹_› (fun l7 => ?_))
 refine mv rfl (ln (qc (bl (kc_loopK (A := Nat × List Int × Value × Hp) (fun zz => (zz.1 ≤ m.cons.length) ∧ (zz.2.1 = filtC (m.cons.take zz.1) ds) ∧ Fr B zz.2.2.2 ∧ Ints (orHp Hds zz.2.2.2) zz.2.2.1 zz.2.1) (fun zz => m.cons.length - zz.1) (fun zz => zz.2.2.2) (fun zz => []) (fun zz => [(10, .int .i64 (zz.1 : Int)), (1, zz.2.2.1)]) (0, ds, vds, noHp) (pk [4, 8, 9] rfl) (pk [10, 1] rfl) rfl ⟨Nat.zero_le _, rfl, (fr_no _), (Sl.mono ‹_› orL (fun _ _ h => h))⟩ ?_))))
 rintro ⟨k, xs, v10, K11⟩ hJ14
 obtain ⟨hk8, hi9, f12, h13⟩ : (k ≤ m.cons.length) ∧ (xs = filtC (m.cons.take k) ds) ∧ Fr B K11 ∧ Ints (orHp Hds K11) v10 xs := hJ14
 change KC _ _ (K11 :: _) [] _ ([(10, .int .i64 (k : Int)), (1, v10)] ++ _)
 refine cS (cr (ls9 rfl rfl ?_))
 refine ln (qc (cS (ci9 rfl (fun c15 => ?_) (fun c15 => ?_))))
 ·have hD := filtC_at hM hd hi9
  have hC : ConOk (m.cons.getD k nilCon) xs.length := (by rw [hD.l]; exact ⟨hM.c (by omega)⟩)
  refine sk (qc (cS (bl (cS (cr (kl_inC rfl rfl ‹_› (by omega) (fun p16 u18 u19 u20 h21 h22 h23 a17 => ?_)))))))
  refine kl_ldS rfl ‹_› rfl ?_
  refine kl_alloc (cs := [.int .i64 (0 : Int), .slice none 0 0, .slice none 0 0, .int .i64 (0 : Int), .slice none 0 0]) rfl (fun b24 hb25 => ?_)
  refine kl_stW (us := [.int .i64 ((m.cons.getD k nilCon).kind), u18, u19, .int .i64 ((m.cons.getD k nilCon).bound), u20]) rfl rfl rfl rfl (oc rfl (oc (Sl.oneCell ‹_›) (oc (Sl.oneCell ‹_›) (oc rfl (oc (Sl.oneCell ‹_›) oc_nil))))) rfl ?_
  refine ln (qc (cr (kl_ldW rfl rfl (mv rfl (kl_call rfl rfl (filter_ok (m.cons.getD k nilCon) xs hC hD.d ‹_› ‹_› ‹_› ‹_›) (fun v26 H27 f28 h29 => ?_))))))
  refine sg rfl (ln (qc (cr (ic9 rfl rfl (by omega) ?_))))
  refine mv rfl (ln (kq_cmp Hds H27 (fun c30 => ?_)))
  refine kq_roundK ((k + 1), (filtL (m.cons.getD k nilCon) xs), v26, H27) (by omega) (⟨by omega, (by rw [filtC_step (by omega), ← hi9]), f28, (Sl.mono ‹_› (orC c30) (fun _ _ h => h))⟩) (pk [10, 1] rfl) (pk [4, 8, 9] rfl) rfl (.cons _ slr9)
 ·refine ex9 (qc (cS (cr (mv rfl (sg rfl (ln (qc (rt ?_))))))))
  have e9 : xs = filtA m ds := by (rw [hi9, List.take_of_length_le (by omega)]; rfl)
  exact kq_ret rfl rfl K11 f12 (e9 ▸ (by assumption : Ints _ _ xs))
theorem fixI_ok {Hds : Hp} {vds : Value} {Hmd : Hp} {vmd : Value} {Hmc : Hp} {vmc : Value} (ds : List Int) (m : Mod) (hM : MOk m) (hd : DOk m.doms.length ds) (hds : Ints Hds vds ds) (hmd : Ints Hmd vmd m.doms) (hmc : Cons Hmc vmc m.cons) : Spec Tryz.prog 135 [vds, .func (.func 136) #[.agg #[vmd, vmc]] #[]] [Hds, Hmd, Hmc] (fun Hq vq => Ints Hq vq (prop m ds)) := by
 refine spec_of Tryz.func135 rfl rfl rfl (fun B => ?_)
 refine cS (cr (sg rfl (ln (qc (cS (cr (mv rfl (kl_call rfl rfl (copied_ok ds (by have := hd.l; have := hM.n; omega) ‹_›) (fun v1 H2 f3 o4 => ?_)))))))))
 have h5 := OwnL.ints o4
 refine sg rfl (ln (qc (bl (kc_loopK (A := List Int × Value × Hp) (fun zz => (DOk m.doms.length zz.1 ∧ prop m zz.1 = prop m ds) ∧ Fr B zz.2.2 ∧ Ints zz.2.2 zz.2.1 zz.1) (fun zz => sumN zz.1) (fun zz => zz.2.2) (fun zz => []) (fun zz => [(5, zz.2.1)]) (ds, v1, H2) (pc 1 rfl pn) (pc 5 rfl pn) rfl ⟨⟨hd, rfl⟩, f3, ‹_›⟩ ?_))))
 rintro ⟨xs, v8, K9⟩ hJ12
 obtain ⟨hi7, f10, h11⟩ : (DOk m.doms.length xs ∧ prop m xs = prop m ds) ∧ Fr B K9 ∧ Ints K9 v8 xs := hJ12
 change KC _ _ (K9 :: _) [] _ ([(5, v8)] ++ _)
 have hD := hi7.1
 refine bl (cS (cS (cr (mv rfl (cP rfl rfl (containsInts_ok xs (0 : Int) ‹_›) ?_)))))
 refine ln (qc (cd9 rfl (fun c13 => ?_) (fun c13 => ?_)))
 ·have c13r := c13
  try simp only [smpE] at c13
  refine cS (cr (mv rfl (le9 rfl ‹_› (fun l14 => ?_))))
  refine kl_mkL (R := IntV) (0 : Int) rfl rfl (by (have := hD.l; have := hM.n; omega)) (by decide) (by exact rfl) (fun v15 H16 f17 o18 => ?_)
  refine sg rfl (ln (qc (rt ?_)))
  have e9 : (List.replicate xs.length (0 : Int)) = prop m ds := by (rw [← hi7.2]; exact (prop_0 ‹_›).symm)
  exact kq_ret rfl rfl H16 f17 (e9 ▸ OwnL.ints o18)
 ·have c13r := c13
  try simp only [smpE] at c13
  refine sk (qc (cS (cr (mv rfl (mv rfl (kl_callB rfl rfl (filtered_ok m xs hM hD ‹_› ‹_› ‹_›) (fun v19 H20 f21 h22 => ?_)))))))
  refine sg rfl (ln (qc (cS (cS (cr (mv rfl (mv rfl (cP rfl rfl (equal_ok (filtA m xs) xs ‹_› ‹_›) ?_))))))))
  refine ln (qc (cd9 rfl (fun c23 => ?_) (fun c23 => ?_)))
  ·have c23r := c23
   try simp only [smpE] at c23
   refine cS (cr (mv rfl (sg rfl (ln (qc (rt ?_))))))
   have e9 : xs = prop m ds := by (rw [← hi7.2]; exact (prop_fix ‹_› ‹_›).symm)
   exact kq_ret rfl rfl K9 f10 (e9 ▸ (by assumption : Ints _ _ xs))
  ·have c23r := c23
   try simp only [smpE] at c23
   refine sk (qc (cr (mv rfl (sg rfl (ln (kq_roundK ((filtA m xs), v19, (orHp K9 H20)) (by (dsimp only; exact filtA_lt hM hD ‹_›)) (⟨⟨(filtA_ok hM hD).1, (prop_step hM hD ‹_› ‹_›).trans hi7.2⟩, (fr_or f10 f21), ‹_›⟩) (pc 5 rfl pn) (pc 1 rfl pn) rfl slr9))))))
theorem propagate_ok {Hmd : Hp} {vmd : Value} {Hmc : Hp} {vmc : Value} {Hds : Hp} {vds : Value} (m : Mod) (ds : List Int) (hM : MOk m) (hd : DOk m.doms.length ds) (hmd : Ints Hmd vmd m.doms) (hmc : Cons Hmc vmc m.cons) (hds : Ints Hds vds ds) : Spec Tryz.prog 92 [.agg #[vmd, vmc], vds] [Hmd, Hmc, Hds] (fun Hq vq => Ints Hq vq (prop m ds)) := by
 refine spec_of Tryz.func92 rfl rfl rfl (fun B => ?_)
 refine cS (cr (kl_box rfl rfl (fun p1 H2 f3 a4 => ?_)))
 refine sg rfl (ln (qc (cS (cr (mv rfl (kl_ldS rfl ‹_› rfl ?_))))))
 refine kl_mkfB rfl rfl ?_
 refine kl_call rfl rfl (fixI_ok ds m hM hd ‹_› ‹_› ‹_›) (fun v5 H6 f7 h8 => ?_)
 refine sg rfl (ln (qc (rt ?_)))
 exact kq_ret rfl rfl H6 f7 ‹_›
theorem solutions_ok {Hmd : Hp} {vmd : Value} {Hmc : Hp} {vmc : Value} (m : Mod) (hM : MOk m) (hmd : Ints Hmd vmd m.doms) (hmc : Cons Hmc vmc m.cons) : Spec Tryz.prog 53 [.agg #[vmd, vmc]] [Hmd, Hmc] (fun Hq vq => Rows Hq vq (sols m)) := by
 have hn := hM.n
 have hp := propOk hM hM.dok
 refine spec_ofR Tryz.func53 rfl rfl rfl (fun B => ?_)
 refine cS (cr (kl_box rfl rfl (fun p1 H2 f3 a4 => ?_)))
 refine sg rfl (ln (qc (cS (cr (kl_bs0 RowV rfl (fun v5 H6 f7 o8 => ?_))))))
 refine kl_alloc (cs := [.slice none 0 0]) rfl (fun b9 hb10 => ?_)
 refine sB rfl rfl rfl (OwnL.oneCell ‹_›) (OwnL.cells ‹_›) ?_
 refine cg [bxS b9 [v5] 40, H6] rfl ?_
 refine ln (qc (cS (cS (cr (kl_ldS rfl ‹_› rfl ?_)))))
 refine fd9 rfl ‹_› (fun p11 a12 => ?_)
 refine ld rfl ‹_› (kl_call rfl rfl (propagate_ok m m.doms hM hM.dok ‹_› ‹_› ‹_›) (fun v13 H14 f15 h16 => ?_))
 refine kl_call rfl rfl (tuples_ok (prop m m.doms) ‹_›) (fun v17 H18 f19 h20 => ?_)
 obtain ⟨p21, rfl, a22⟩ := h20
 refine ln (qc (bl (kc_noO ?_)))
 refine kc_range (A := List (List Int) × Value × Hp × Hp) (fun zz => [zz.2.2.2, bxS b9 [zz.2.1] 40, zz.2.2.1]) (fun n zz => (zz.1 = ((tupL (prop m m.doms)).take n).filter (isSolB m)) ∧ Fr B zz.2.2.2 ∧ OwnL 23 1 zz.2.2.1 zz.2.2.2 RowV zz.2.1 zz.1 ∧ Fr B zz.2.2.1) (fun _ _ => False) (([]), v5, H6, noHp) rfl (tuples_it (prop m m.doms) hp.ok.d (by have := hp.ok.l; omega) a22 ‹_›) (pk [1, 2, 3] rfl) rfl rfl ⟨rfl, (fr_no _), o8, f7⟩ ?_ ?_ (fun _ _ _ _ h => h.elim)
 ·rintro l30 m31 D32 r33 H34 v35 n ⟨out, v24, H25, K28⟩ hk36 hJ37 h38
  obtain ⟨hi23, f29, o26, f27⟩ : (out = ((tupL (prop m m.doms)).take n).filter (isSolB m)) ∧ Fr B K28 ∧ OwnL 23 1 H25 K28 RowV v24 out ∧ Fr B H25 := hJ37
  have hb := mem_tupL.1 (getD_mem (d := []) hk36)
  have hT := take_succ_getD [] hk36
  obtain ⟨x, hx⟩ : ∃ x, (tupL (prop m m.doms)).getD n [] = x := ⟨_, rfl⟩
  rw [hx] at h38 hb hT
  have hX := hb.vals
  have hl := hb.1
  have hl2 := hp.ok.l
  have hr := sol_room hp.ok hn.2 hi23 hk36
  change KC _ _ _ (rdy l30 r33 :: [K28, bxS b9 [v24] 40, H25]) _ _
  refine cr (sg rfl (ln (kq_begin (r := r33) ?_)))
  refine bl (cS (cr (kl_ldS rfl ‹_› rfl ?_)))
  refine mv rfl (cP rfl rfl (isSol_ok m x hM (by omega) hX ‹_› ‹_› ‹_›) ?_)
  refine ln (qc (cd9 rfl (fun c40 => ?_) (fun c40 => ?_)))
  ·have c40r := c40
   try simp only [smpE] at c40
   refine kc_tree (fun i => ([4, 5] : List Nat).contains i) [bxS b9 [v24] 40] (by kernel_rfl) ?_
   refine kt_q 0 (.cons _ (.cons _ (.cons_cons _ nsl))) rfl (by kernel_rfl) (ld rfl (at_box (T := 40) (cs := [v24]) (off := 0) (fz := (0, 0))) (ln (qq (kt_q 1 (.cons _ (.cons _ (.cons_cons _ nsl))) rfl (by kernel_rfl) (mv rfl (ln (qq (ta 2 rfl (kl_callL rfl rfl (copied_ok x (by omega) ‹_›) (fun v41 H42 f43 o44 => ?_))))))))))
   refine ln (qa (.cons _ (.cons _ (.cons _ (.cons_cons _ nsl)))) (ta 3 rfl (bs9 rfl rfl rfl (by decide) (ca (by first | exact Sl.cells ‹_› | exact OwnL.cells ‹_›) ca_nil) (fun v45 H46 f47 r48 s49 => ?_))))
   refine ln (qa (.cons _ (.cons _ (.cons _ (.cons_cons _ nsl)))) ?_)
   have h50 := OwnL.ints o44
   refine ta 4 rfl (cm9 K28 H42 (fun c51 => ?_))
   have o52 := OwnL.mono (K' := orHp K28 H42) o26 orL
   refine aL9 x rfl rfl o52 ‹_› ⟨_, rfl, Sl.mono ‹_› (orC c51) (fun _ _ h => h)⟩ (oc (Sl.oneCell ‹_›) oc_nil) (by omega) (by decide) (fun v53 H54 o55 f56 => ?_)
   have f57 := f56 B f27 (Nat.le_refl _)
   refine ln (qx rfl (ta 5 rfl (sB rfl rfl rfl (OwnL.oneCell ‹_›) (OwnL.cells ‹_›) ?_)))
   refine cg [H42, bsy l30 r33, K28, bxS b9 [v53] 40, H54] rfl ?_
   refine ln (qx rfl (kt_end (by kernel_rfl) ?_))
   refine kq_mrg K28 H42 ?_
   refine tk [bsy l30 r33, orHp K28 H42, bxS b9 [v53] 40, H54] ?_
   exact kq_rend (invx := fun _ _ => False) ((out ++ [x]), v53, H54, (orHp K28 H42)) ⟨(by rw [hT, List.filter_append, ← hi23]; first | rw [filter_oneT ‹_›] | (rw [filter_oneF ‹_›, List.append_nil])), (fr_or f29 f43), o55, f57⟩ rfl inferInstance slr9
  ·have c40r := c40
   try simp only [smpE] at c40
   refine sk (tk [bsy l30 r33, K28, bxS b9 [v24] 40, H25] ?_)
   exact kq_rend (invx := fun _ _ => False) (out, v24, H25, K28) ⟨(by rw [hT, List.filter_append, ← hi23]; first | rw [filter_oneT ‹_›] | (rw [filter_oneF ‹_›, List.append_nil])), f29, o26, f27⟩ rfl inferInstance slr9
 ·rintro D58 ⟨out, v24, H25, K28⟩ hD59 hJ60
  obtain ⟨hi23, f29, o26, f27⟩ : (out = ((tupL (prop m m.doms)).take ((tupL (prop m m.doms)).length)).filter (isSolB m)) ∧ Fr B K28 ∧ OwnL 23 1 H25 K28 RowV v24 out ∧ Fr B H25 := hJ60
  change KQ _ _ ([K28, bxS b9 [v24] 40, H25]) _ _
  refine qc (cS (cr (lB rfl rfl (sg rfl (ln (qc (rt (kq_cmp H25 K28 (fun c61 => ?_)))))))))
  have e9 : out = sols m := by rw [hi23, List.take_length]; exact sols_prop hM
  exact kq_retR (rss1 rfl (rs_tmp rfl)) (orHp H25 K28) (fr_or f27 f29) (e9 ▸ OwnL.rowsK o26 c61) (df1 hD59)
end
section
theorem sequal_ok {Ha : Hp} {va : Value} {Hb : Hp} {vb : Value} (a : List Int) (b : List Int) (ha : Ints Ha va a) (hb : Ints Hb vb b) : SpecP Tryz.prog 168 [va, vb] [Ha, Hb] (.bool (decide (a = b))) := by
 refine spec_of Tryz.func168 rfl rfl rfl (fun B => ?_)
 refine cS (cr (sg rfl (ln (qc (cS (cS (cr (mv rfl (le9 rfl ‹_› (fun l1 => ?_))))))))))
 refine mv rfl (le9 rfl ‹_› (fun l2 => ?_))
 refine kl_neq rfl rfl ?_
 refine ln (qc (ci9 rfl (fun c3 => ?_) (fun c3 => ?_)))
 ·refine cS (cr (sg rfl (ln (qc (rt (kq_retP rfl rfl (congrArg Value.bool ?_)))))))
  exact eq_len ‹_›
 ·refine sk (qc (cS (cS (cr (sg rfl (ln (qc (bl (kc_loop0 (A := Nat) (fun zz => (zz ≤ a.length) ∧ (a.take zz = b.take zz)) (fun zz => a.length - zz) (fun zz => [(5, .int .i64 (zz : Int))]) (0) (pk [0, 1] rfl) (pc 5 rfl pn) ⟨Nat.zero_le _, by simp⟩ ?_)))))))))
  rintro k hJ6
  obtain ⟨hk4, hi5⟩ : (k ≤ a.length) ∧ (a.take k = b.take k) := hJ6
  change KC _ _ (_) _ _ ([(5, .int .i64 (k : Int))] ++ _)
  refine cS (cS (cr (mv rfl (mv rfl (le9 rfl ‹_› (fun l7 => ?_))))))
  refine ls9 rfl rfl ?_
  refine ln (qc (ci9 rfl (fun c8 => ?_) (fun c8 => ?_)))
  ·refine sk (qc (cS (bl (cS (kc_draw 9 [true, true, true, true, true, true, true, true, true] (by kernel_rfl) (by kernel_rfl) ?_)))))
   refine mv rfl (mv rfl (kl_inI rfl rfl ‹_› (by omega) (fun p9 a10 => ?_)))
   refine ld rfl ‹_› (mv rfl (mv rfl (kl_inI rfl rfl ‹_› (by omega) (fun p11 a12 => ?_))))
   refine ld rfl ‹_› (kl_neq rfl rfl ?_)
   refine ln (qc (ci9 rfl (fun c13 => ?_) (fun c13 => ?_)))
   ·refine cS (cr (sg rfl (ln (qc (rt (kq_retP rfl rfl (congrArg Value.bool ?_)))))))
    exact eq_at (k := k) 0 (by simpa using by assumption)
   ·refine sk (qc (cr (mv rfl (ic9 rfl rfl (by omega) ?_))))
    refine sg rfl (ln (kq_round0 ((k + 1)) (by omega) (⟨by omega, eq_step 0 (by omega) (by omega) hi5 (by first | exact Decidable.not_not.1 ‹_› | (simpa using by assumption))⟩) (pc 5 rfl pn) (pk [0, 1] rfl) slr9))
  ·refine ex9 (qc (cS (cr (sg rfl (ln (qc (rt (kq_retP rfl rfl (congrArg Value.bool ?_)))))))))
   exact eq_end (k := k) (by omega) (by omega) ‹_›
abbrev walkSt (k : Nat) : Prop := ∀ {He Hcv Hca Hcr Hd Hx Hs : Hp} {pe vcv vca vcr vd vx vs : Value} (c : Con) (ds x p s : List Int) (T : List (List Int)) (i : Nat) (hC : ConOk c ds.length) (hd : DomV ds) (hk : i + k = c.vars.length) (hx : x.length = c.vars.length) (hp : x.take i = p) (hv : Vals p) (hs : s = suppV c T)
  (hcv : Ints Hcv vcv c.vars) (hca : Ints Hca vca c.args) (hcr : Rows Hcr vcr c.rows) (hds : Ints Hd vd ds) (ae : At He pe [.int .i64 c.kind, vcv, vca, .int .i64 c.bound, vcr, vd, vx, vs]) (ox : OwnL 3 1 Hx noHp IntV vx x) (os : OwnL 3 1 Hs noHp IntV vs s),
  SpecT Tryz.prog 183 [pe, .int .i64 (i : Int)] [Hx, Hs] [He, Hcv, Hca, Hcr, Hd] (fun vq L1 Ln _ => vq = .tuple #[] ∧ Ln = [] ∧ ∃ (Hx2 Hs2 : Hp) (x2 : List Int), L1 = [Hx2, Hs2] ∧ OwnL 3 1 Hx2 noHp IntV vx x2 ∧ x2.length = c.vars.length ∧ x2.take i = p ∧ OwnL 3 1 Hs2 noHp IntV vs (suppV c (T ++ extP (wordL c.vars ds) i p)))
theorem walk_step (k : Nat) (ih : ∀ j, j < k → walkSt j) : walkSt k := by
 intro He Hcv Hca Hcr Hd Hx Hs pe vcv vca vcr vd vx vs c ds x p s T i hC hd hk hx hp hv hs hcv hca hcr hds ae ox os
 have ho := hC.one
 have hpl : p.length = i := (by rw [← hp, List.length_take]; omega)
 refine specT_of Tryz.func183 rfl rfl rfl (fun B => ?_)
 refine cS (cS (cr (mv rfl (mv rfl (kl_nilchkA rfl ‹_› ?_)))))
 refine fd9 rfl ‹_› (fun p1 a2 => ?_)
 refine ld rfl ‹_› (lL rfl ox (fun l3 => ?_))
 refine eq9 rfl rfl ?_
 refine ln (qc (ci9 rfl (fun c4 => ?_) (fun c4 => ?_)))
 ·have hxp : x = p := (by rw [← hp, List.take_of_length_le (by omega)])
  have hS : SatOk c x := sat_of hC hx (hxp ▸ hv)
  refine cS (cS (kc_tree (fun i => ([8] : List Nat).contains i) [] (by kernel_rfl) ?_))
  refine tq 0 nsl rfl (mv rfl (ln (qq (tq 1 nsl rfl (kl_nilchkA rfl ‹_› ?_)))))
  refine ln (qq (tq 2 nsl rfl (fd9 rfl ‹_› (fun p5 a6 => ?_))))
  refine ln (qq (tq 3 nsl rfl (kl_ldS rfl (At.take 5 ‹_›) rfl ?_)))
  refine ln (qq (tq 4 nsl rfl (mv rfl (ln (qq (tq 5 nsl rfl (kl_nilchkA rfl ‹_› ?_)))))))
  refine ln (qq (tq 6 nsl rfl (fd9 rfl ‹_› (fun p7 a8 => ?_))))
  refine ln (qq (tq 7 nsl rfl (ld rfl ‹_› (ln (qq (ta 8 rfl (cP rfl rfl (satisfies_ok c x hS ‹_› ‹_› ‹_› (OwnL.ints ox)) ?_)))))))
  refine ln (qx rfl (kt_end (by kernel_rfl) ?_))
  refine qc (cd9 rfl (fun c9 => ?_) (fun c9 => ?_))
  ·have c9r := c9
   try simp only [smpE] at c9
   refine cS (cr (sg rfl (ln (qc (bl (kc_loopL (A := Nat × List Int × Hp) (fun zz => (zz.1 ≤ x.length) ∧ (zz.2.1 = suppM c T x zz.1) ∧ OwnL 3 1 zz.2.2 noHp IntV vs zz.2.1) (fun zz => x.length - zz.1) (fun zz => [Hx, zz.2.2]) (fun zz => [(4, .int .i64 (zz.1 : Int))]) (0, s, Hs) (pk [0, 1] rfl) (pc 4 rfl pn) rfl ⟨Nat.zero_le _, (by rw [hs, suppM_0]), os⟩ ?_))))))
   rintro ⟨k1, s1, H12⟩ hJ15
   obtain ⟨hk10, hi11, o13⟩ : (k1 ≤ x.length) ∧ (s1 = suppM c T x k1) ∧ OwnL 3 1 H12 noHp IntV vs s1 := hJ15
   change KC _ _ (_) [Hx, H12] _ ([(4, .int .i64 (k1 : Int))] ++ _)
   have hln : s1.length = c.vars.length := (by rw [hi11]; exact suppM_len c T x k1)
   refine cS (cS (cr (mv rfl (mv rfl (kl_nilchkA rfl ‹_› ?_)))))
   refine fd9 rfl ‹_› (fun p16 a17 => ?_)
   refine ld rfl ‹_› (lL rfl ox (fun l18 => ?_))
   refine ls9 rfl rfl ?_
   refine ln (qc (ci9 rfl (fun c19 => ?_) (fun c19 => ?_)))
   ·have hv1 := hS.val.at (k := k1) (by omega)
    have hsl := shl_le hv1
    have hsb := supp_addle (c := c) (T := T) hS (by omega : k1 < x.length)
    rw [← hi11] at hsb
    refine sk (qc (cS (bl (cS (kc_draw 16 [true, true, true, true, true, true, true, true, true, true, true, true, true, true, false, true] (by kernel_rfl) (by kernel_rfl) ?_)))))
    refine mv rfl (kl_nilchkA rfl ‹_› ?_)
    refine fd9 rfl ‹_› (fun p20 a21 => ?_)
    refine ld rfl ‹_› (mv rfl (kl_ixLn rfl rfl ‹_› (by omega) (fun p22 q23 => ?_)))
    refine kl_ldLI rfl ‹_› ‹_› (by omega) ?_
    refine mv rfl (kl_nilchkA rfl ‹_› ?_)
    refine fd9 rfl ‹_› (fun p24 a25 => ?_)
    refine ld rfl ‹_› (mv rfl (kl_ixLn rfl rfl ‹_› (by omega) (fun p26 q27 => ?_)))
    refine kl_ldLI rfl ‹_› ‹_› (by omega) ?_
    refine cP rfl rfl (domainHas_ok (s1.getD k1 0) (x.getD k1 0)) ?_
    refine nt9 rfl (ln (qc (cd9 rfl (fun c28 => ?_) (fun c28 => ?_))))
    ·have c28r := c28
     try simp only [smpE] at c28
     refine kc_draw 22 [true, true, true, true, true, true, true, true, true, true, true, true, true, true, true, true, true, true, true, true, true, true, false] (by kernel_rfl) (by kernel_rfl) ?_
     refine mv rfl (kl_nilchkA rfl ‹_› ?_)
     refine fd9 rfl ‹_› (fun p29 a30 => ?_)
     refine ld rfl ‹_› (mv rfl (mv rfl (kl_nilchkA rfl ‹_› ?_)))
     refine fd9 rfl ‹_› (fun p31 a32 => ?_)
     refine ld rfl ‹_› (mv rfl (kl_ixLn rfl rfl ‹_› (by omega) (fun p33 q34 => ?_)))
     refine kl_ldLI rfl ‹_› ‹_› (by omega) ?_
     refine mv rfl (kl_nilchkA rfl ‹_› ?_)
     refine fd9 rfl ‹_› (fun p35 a36 => ?_)
     refine ld rfl ‹_› (mv rfl (kl_ixLn rfl rfl ‹_› (by omega) (fun p37 q38 => ?_)))
     refine kl_ldLI rfl ‹_› ‹_› (by omega) ?_
     refine kl_shl rfl rfl (by omega) ?_
     refine ad9 rfl rfl (by omega) ?_
     refine kl_ixLn rfl rfl ‹_› (by omega) (fun p39 q40 => ?_)
     refine kl_stL ((s1.getD k1 0) + (ishl (1 : Int) (x.getD k1 0))) rfl rfl ‹_› o13 (by omega) rfl rfl rfl (fun H41 o42 f43 => ?_)
     refine ln (qc (cr (mv rfl (ic9 rfl rfl (by omega) ?_))))
     refine sg rfl (ln (rL ((k1 + 1), (s1.set k1 ((s1.getD k1 0) + (ishl (1 : Int) (x.getD k1 0)))), H41) (by omega) (⟨by omega, (by rw [hi11] at *; first | exact supp_stepS ‹_› hS (by omega) ‹_› | exact supp_stepN ‹_› hS (by omega) ‹_›), o42⟩) (pc 4 rfl pn) (pk [0, 1] rfl) rfl slr9))
    ·have c28r := c28
     try simp only [smpE] at c28
     refine sk (qc (cr (mv rfl (ic9 rfl rfl (by omega) ?_))))
     refine sg rfl (ln (rL ((k1 + 1), s1, H12) (by omega) (⟨by omega, (by rw [hi11] at *; first | exact supp_stepS ‹_› hS (by omega) ‹_› | exact supp_stepN ‹_› hS (by omega) ‹_›), o13⟩) (pc 4 rfl pn) (pk [0, 1] rfl) rfl slr9))
   ·refine ex9 (qc (rt ?_))
    exact kq_retT0 rfl [Hx, H12] [] noHp frn (fr_no _) ⟨rfl, rfl, Hx, H12, x, rfl, ox, hx, hp, OwnL.cast (by rw [extP_base (by simp [wordL]; omega), ← hxp]; exact supp_stepT hi11 hS (by omega)) o13⟩
  ·have c9r := c9
   try simp only [smpE] at c9
   refine sk (qc (rt ?_))
   exact kq_retT0 rfl [Hx, Hs] [] noHp frn (fr_no _) ⟨rfl, rfl, Hx, Hs, x, rfl, ox, hx, hp, OwnL.cast (by rw [extP_base (by simp [wordL]; omega), ← hxp, suppV_no ‹_›]; exact hs) os⟩
 ·refine sk (qc (cS (cr (sg rfl (ln (qc (bl (kc_loopL (A := Nat × List Int × Hp × List Int × Hp) (fun zz => (zz.1 ≤ 6) ∧ (zz.2.1.length = c.vars.length ∧ zz.2.1.take i = p ∧ zz.2.2.2.1 = suppV c (T ++ extTo (wordL c.vars ds) i p zz.1)) ∧ OwnL 3 1 zz.2.2.1 noHp IntV vx zz.2.1 ∧ OwnL 3 1 zz.2.2.2.2 noHp IntV vs zz.2.2.2.1) (fun zz => 6 - zz.1) (fun zz => [zz.2.2.1, zz.2.2.2.2]) (fun zz => [(5, .int .i64 (zz.1 : Int))]) (0, x, Hx, s, Hs) (pk [0, 1] rfl) (pc 5 rfl pn) rfl ⟨Nat.zero_le _, ⟨hx, hp, by rw [extTo_0, List.append_nil]; exact hs⟩, ox, os⟩ ?_))))))))
  rintro ⟨v, x1, H47, s1, H50⟩ hJ53
  obtain ⟨hk45, hi46, o48, o51⟩ : (v ≤ 6) ∧ (x1.length = c.vars.length ∧ x1.take i = p ∧ s1 = suppV c (T ++ extTo (wordL c.vars ds) i p v)) ∧ OwnL 3 1 H47 noHp IntV vx x1 ∧ OwnL 3 1 H50 noHp IntV vs s1 := hJ53
  change KC _ _ (_) [H47, H50] _ ([(5, .int .i64 (v : Int))] ++ _)
  refine cS (cS (cr (mv rfl (kl_leq rfl rfl ?_))))
  refine ln (qc (ci9 rfl (fun c54 => ?_) (fun c54 => ?_)))
  ·have hv2 := hC.at (k := i) (by omega)
   refine sk (qc (cS (bl (cS (kc_tree (fun i => ([15] : List Nat).contains i) [] (by kernel_rfl) ?_)))))
   refine tq 0 nsl rfl (mv rfl (ln (qq (tq 1 nsl rfl (kl_nilchkA rfl ‹_› ?_)))))
   refine ln (qq (tq 2 nsl rfl (fd9 rfl ‹_› (fun p55 a56 => ?_))))
   refine ln (qq (tq 3 nsl rfl (ld rfl ‹_› (ln (qq (tq 4 nsl rfl (mv rfl (ln (qq (tq 5 nsl rfl (kl_nilchkA rfl ‹_› ?_)))))))))))
   refine ln (qq (tq 6 nsl rfl (fd9 rfl ‹_› (fun p57 a58 => ?_))))
   refine ln (qq (tq 7 nsl rfl (fd9 rfl ‹_› (fun p59 a60 => ?_))))
   refine ln (qq (tq 8 nsl rfl (ld rfl ‹_› (ln (qq (tq 9 nsl rfl (mv rfl (ln (qq (tq 10 nsl rfl (kl_inI rfl rfl ‹_› (by omega) (fun p61 a62 => ?_))))))))))))
   refine ln (qq (tq 11 nsl rfl (ld rfl ‹_› (ln (qq (tq 12 nsl rfl (kl_ixI rfl rfl ‹_› (by omega) (by omega) (fun p63 a64 => ?_))))))))
   refine ln (qq (tq 13 nsl rfl (ld rfl ‹_› (ln (qq (tq 14 nsl rfl (mv rfl (ln (qq (ta 15 rfl (cP rfl rfl (domainHas_ok (ds.getD (c.vars.getD i 0).toNat 0) (v : Int)) ?_)))))))))))
   refine ln (qx rfl (kt_end (by kernel_rfl) ?_))
   refine qc (cd9 rfl (fun c65 => ?_) (fun c65 => ?_))
   ·have c65r := c65
    try simp only [smpE] at c65
    have hb1 : hasB ((wordL c.vars ds).getD i 0) (v : Int) = true := (by rw [word_at (by omega), ← dh_iff (by omega : v < 6)]; exact c65r)
    refine cS (cr (mv rfl (kl_nilchkA rfl ‹_› ?_)))
    refine fd9 rfl ‹_› (fun p66 a67 => ?_)
    refine ld rfl ‹_› (mv rfl (mv rfl (kl_ixLn rfl rfl ‹_› (by omega) (fun p68 q69 => ?_))))
    refine kl_stL (v : Int) rfl rfl ‹_› o48 (by omega) rfl rfl rfl (fun H70 o71 f72 => ?_)
    refine ln (qc (cr (mv rfl (mv rfl (ic9 rfl rfl (by omega) ?_)))))
    refine cT (vs := [_, .int .i64 (((i + 1) : Nat) : Int)]) rfl rfl (ih (k - 1) (by omega) c ds (x1.set i (v : Int)) (p ++ [(v : Int)]) s1 (T ++ extTo (wordL c.vars ds) i p v) (i + 1) hC hd (by omega) (by rw [List.length_set]; exact hi46.1) (take_set_succ hi46.2.1 (by omega)) (hv.snoc (by omega)) hi46.2.2 hcv hca hcr hds ae o71 o51) (fun v74 L1 Ln K75 h76 g77 g78 => ?_)
    obtain ⟨rfl, rfl, H79, H80, x81, rfl, o82, h83, h84, o85⟩ := h76
    refine nm ?_
    refine ln (qc (cr (mv rfl (ic9 rfl rfl (by omega) ?_))))
    refine sg rfl (ln (rL ((v + 1), x81, H79, (suppV c ((T ++ extTo (wordL c.vars ds) i p v) ++ extP (wordL c.vars ds) (i + 1) (p ++ [(v : Int)]))), H80) (by omega) (⟨by omega, ⟨h83, take_of_succ h84 hpl, (by rw [← extTo_T hb1, List.append_assoc])⟩, o82, o85⟩) (pc 5 rfl pn) (pk [0, 1] rfl) rfl slr9))
   ·have c65r := c65
    try simp only [smpE] at c65
    have hb1 : hasB ((wordL c.vars ds).getD i 0) (v : Int) = false := (by rw [word_at (by omega), ← dh_iff (by omega : v < 6)]; exact c65r)
    refine sk (qc (cr (mv rfl (ic9 rfl rfl (by omega) ?_))))
    refine sg rfl (ln (rL ((v + 1), x1, H47, s1, H50) (by omega) (⟨by omega, ⟨hi46.1, hi46.2.1, (by rw [hi46.2.2, extTo_F hb1])⟩, o48, o51⟩) (pc 5 rfl pn) (pk [0, 1] rfl) rfl slr9))
  ·refine ex9 ?_
   exact kq_retT0 rfl [H47, H50] [] noHp frn (fr_no _) ⟨rfl, rfl, H47, H50, x1, rfl, o48, hi46.1, hi46.2.1, OwnL.cast (by rw [hi46.2.2, extTo_6 (by simp [wordL]; omega) (by omega)]) o51⟩
theorem walk_ok (k : Nat) : walkSt k := by
 induction k using Nat.strongRecOn with
 | _ k ih => exact @walk_step k ih
end
section
theorem supported_ok {Hcv : Hp} {vcv : Value} {Hca : Hp} {vca : Value} {Hcr : Hp} {vcr : Value} {Hds : Hp} {vds : Value} (c : Con) (ds : List Int) (hC : ConOk c ds.length) (hd : DomV ds) (hcv : Ints Hcv vcv c.vars) (hca : Ints Hca vca c.args) (hcr : Rows Hcr vcr c.rows) (hds : Ints Hds vds ds) : Spec Tryz.prog 158 [.agg #[.int .i64 c.kind, vcv, vca, .int .i64 c.bound, vcr], vds] [Hcv, Hca, Hcr, Hds] (fun Hq vq => Ints Hq vq (filtL c ds)) := by
 have ho := hC.one
 refine spec_of Tryz.func158 rfl rfl rfl (fun B => ?_)
 refine cS (cr (kl_box rfl rfl (fun p1 H2 f3 a4 => ?_)))
 refine sg rfl (ln (qc (cS (kc_tree (fun i => ([10, 11] : List Nat).contains i) [] (by kernel_rfl) ?_))))
 refine tq 0 nsl rfl (kl_ldS rfl ‹_› rfl ?_)
 refine ln (qq (tq 1 nsl rfl (mv rfl (ln (qq (tq 2 nsl rfl (fd9 rfl ‹_› (fun p5 a6 => ?_))))))))
 refine ln (qq (tq 3 nsl rfl (ld rfl ‹_› (ln (qq (tq 4 nsl rfl (le9 rfl ‹_› (fun l7 => ?_))))))))
 refine ln (qq (tq 6 nsl rfl (fd9 rfl ‹_› (fun p8 a9 => ?_))))
 refine ln (qq (tq 7 nsl rfl (ld rfl ‹_› (ln (qq (tq 8 nsl rfl (le9 rfl ‹_› (fun l10 => ?_))))))))
 refine ln (qq (kt_b 5 9 rfl rfl (by kernel_rfl) ?_ ?_))
 ·refine kl_mkL (R := IntV) (0 : Int) rfl rfl (by omega) (by decide) (by exact rfl) (fun v11 H12 f13 o14 => ?_)
  refine ln (qa nsl (ta 9 rfl (kl_mkL (R := IntV) (0 : Int) rfl rfl (by omega) (by decide) (by exact rfl) (fun v15 H16 f17 o18 => ?_))))
  refine ln (qa nsl (ta 10 rfl (kl_bdA [(0, [.int .i64 c.kind, vcv, vca, .int .i64 c.bound, vcr]), (1, [vds]), (2, [v11]), (3, [v15])] [.int .i64 c.kind, vcv, vca, .int .i64 c.bound, vcr, vds, v11, v15] rfl (cpa rfl (cpa (Sl.cells ‹_›) (cpa (OwnL.cells ‹_›) (cpa (OwnL.cells ‹_›) cpa_nil)))) rfl ?_)))
  refine ln (qx rfl (ta 11 rfl (kl_box rfl rfl (fun p19 H20 f21 a22 => ?_))))
  refine ln (qx rfl (tq 12 nsl rfl (sg rfl (ln (qq (kt_end (by kernel_rfl) ?_))))))
  refine qc (cS (cr (mv rfl (cT (vs := [_, .int .i64 ((0 : Nat) : Int)]) rfl rfl (walk_ok c.vars.length c ds (List.replicate c.vars.length (0 : Int)) [] (List.replicate c.vars.length (0 : Int)) [] 0 hC hd (by omega) (by simp) rfl vals_nil (suppV_0 c).symm hcv hca hcr hds a22 o14 o18) (fun v23 L1 Ln K24 h25 g26 g27 => ?_)))))
  obtain ⟨rfl, rfl, H28, H29, x30, rfl, o31, h32, h33, o34⟩ := h25
  refine nm ?_
  refine ln (qc (cS (cr (mv rfl (kl_callL rfl rfl (copyInts_ok ds (by omega) ‹_›) (fun v35 H36 f37 o38 => ?_))))))
  refine sg rfl (ln (qc (cS (cS (cr (sg rfl (ln (qc (bl (kc_loopL (A := Nat × List Int × Hp) (fun zz => (zz.1 ≤ c.vars.length) ∧ (zz.2.1 = filtTo c ds (suppV c ([] ++ extP (wordL c.vars ds) 0 [])) zz.1) ∧ OwnL 3 1 zz.2.2 noHp IntV v35 zz.2.1 ∧ Fr B zz.2.2) (fun zz => c.vars.length - zz.1) (fun zz => [zz.2.2, H28, H29]) (fun zz => [(7, .int .i64 (zz.1 : Int))]) (0, ds, H36) (pk [2, 4, 5, 6] rfl) (pc 7 rfl pn) rfl ⟨Nat.zero_le _, rfl, o38, f37⟩ ?_))))))))))
  rintro ⟨k, out, H41⟩ hJ44
  obtain ⟨hk39, hi40, o42, f43⟩ : (k ≤ c.vars.length) ∧ (out = filtTo c ds (suppV c ([] ++ extP (wordL c.vars ds) 0 [])) k) ∧ OwnL 3 1 H41 noHp IntV v35 out ∧ Fr B H41 := hJ44
  change KC _ _ (_) [H41, H28, H29] _ ([(7, .int .i64 (k : Int))] ++ _)
  have hln : out.length = ds.length := (by rw [hi40]; exact filtTo_len c ds _ k)
  refine cS (cS (cr (mv rfl (fd9 rfl ‹_› (fun p45 a46 => ?_)))))
  refine ld rfl ‹_› (le9 rfl ‹_› (fun l47 => ?_))
  refine ls9 rfl rfl ?_
  refine ln (qc (ci9 rfl (fun c48 => ?_) (fun c48 => ?_)))
  ·have hv2 := hC.at (k := k) (by omega)
   have hll := suppV_len c ([] ++ extP (wordL c.vars ds) 0 [])
   refine sk (qc (cS (bl (kc_tree (fun i => ([14] : List Nat).contains i) [H29] (by kernel_rfl) ?_))))
   refine kt_q 0 (.cons _ (.cons _ (.cons_cons _ nsl))) rfl (by kernel_rfl) (mv rfl (ln (qq (kt_q 1 (.cons _ (.cons _ (.cons_cons _ nsl))) rfl (by kernel_rfl) (fd9 rfl ‹_› (fun p49 a50 => ?_))))))
   refine ln (qq (kt_q 2 (.cons _ (.cons _ (.cons_cons _ nsl))) rfl (by kernel_rfl) (ld rfl ‹_› (ln (qq (kt_q 3 (.cons _ (.cons _ (.cons_cons _ nsl))) rfl (by kernel_rfl) (mv rfl (ln (qq (kt_q 4 (.cons _ (.cons _ (.cons_cons _ nsl))) rfl (by kernel_rfl) (kl_inI rfl rfl ‹_› (by omega) (fun p51 a52 => ?_))))))))))))
   refine ln (qq (kt_q 5 (.cons _ (.cons _ (.cons_cons _ nsl))) rfl (by kernel_rfl) (ld rfl ‹_› (ln (qq (kt_q 6 (.cons _ (.cons _ (.cons_cons _ nsl))) rfl (by kernel_rfl) (mv rfl (ln (qq (kt_q 7 (.cons _ (.cons _ (.cons_cons _ nsl))) rfl (by kernel_rfl) (kl_nilchkA rfl ‹_› ?_)))))))))))
   refine ln (qq (kt_q 8 (.cons _ (.cons _ (.cons_cons _ nsl))) rfl (by kernel_rfl) (fd9 rfl ‹_› (fun p53 a54 => ?_))))
   refine ln (qq (kt_q 9 (.cons _ (.cons _ (.cons_cons _ nsl))) rfl (by kernel_rfl) (ld rfl ‹_› (ln (qq (kt_q 10 (.cons _ (.cons _ (.cons_cons _ nsl))) rfl (by kernel_rfl) (mv rfl (ln (qq (kt_q 11 (.cons _ (.cons _ (.cons_cons _ nsl))) rfl (by kernel_rfl) (kl_ixLn rfl rfl ‹_› (by omega) (fun p55 q56 => ?_))))))))))))
   refine ln (qq (kt_q 12 (.cons _ (.cons _ (.cons_cons _ nsl))) rfl (by kernel_rfl) (kl_ldLIe rfl ‹_› ‹_› (by omega) ?_)))
   refine ln (qq (kt_q 13 (.cons _ (.cons _ (.cons_cons _ nsl))) rfl (by kernel_rfl) (kl_ixL rfl rfl ‹_› (by omega) (by omega) (fun p57 q58 => ?_))))
   refine ln (qq (ta 14 rfl (kl_stL ((suppV c ([] ++ extP (wordL c.vars ds) 0 [])).getD k 0) rfl rfl ‹_› o42 (by omega) rfl rfl rfl (fun H59 o60 f61 => ?_))))
   have f62 := f61 _ f43
   refine cg [H59, H28, H29] rfl ?_
   refine ln (qx rfl (kt_end (by kernel_rfl) ?_))
   refine qc (cr (mv rfl (ic9 rfl rfl (by omega) ?_)))
   refine sg rfl (ln (tk [H59, H28, H29] ?_))
   refine rL ((k + 1), (out.set ((c.vars.getD k 0).toNat) ((suppV c ([] ++ extP (wordL c.vars ds) 0 [])).getD k 0)), H59) (by omega) (⟨by omega, (by rw [hi40, filtTo_succ]), o60, f62⟩) (pc 7 rfl pn) (pk [2, 4, 5, 6] rfl) rfl slr9
  ·refine ex9 (qc (cS (cr (mv rfl (sg rfl (ln (qc (rt ?_))))))))
   have e9 : out = filtL c ds := by (rw [hi40, show k = c.vars.length from by omega, List.nil_append, extP_all]; rfl)
   exact kq_ret rfl rfl H41 f43 (e9 ▸ OwnL.ints o42)
 ·refine kl_mkL (R := IntV) (0 : Int) rfl rfl (by omega) (by decide) (by exact rfl) (fun v63 H64 f65 o66 => ?_)
  refine ln (qa nsl (ta 5 rfl (kl_mkL (R := IntV) (0 : Int) rfl rfl (by omega) (by decide) (by exact rfl) (fun v67 H68 f69 o70 => ?_))))
  refine ln (qa nsl (ta 10 rfl (kl_bdA [(0, [.int .i64 c.kind, vcv, vca, .int .i64 c.bound, vcr]), (1, [vds]), (2, [v67]), (3, [v63])] [.int .i64 c.kind, vcv, vca, .int .i64 c.bound, vcr, vds, v67, v63] rfl (cpa rfl (cpa (Sl.cells ‹_›) (cpa (OwnL.cells ‹_›) (cpa (OwnL.cells ‹_›) cpa_nil)))) rfl ?_)))
  refine ln (qx rfl (ta 11 rfl (kl_box rfl rfl (fun p71 H72 f73 a74 => ?_))))
  refine ln (qx rfl (tq 12 nsl rfl (sg rfl (ln (qq (kt_end (by kernel_rfl) ?_))))))
  refine qc (cS (cr (mv rfl (cT (vs := [_, .int .i64 ((0 : Nat) : Int)]) rfl rfl (walk_ok c.vars.length c ds (List.replicate c.vars.length (0 : Int)) [] (List.replicate c.vars.length (0 : Int)) [] 0 hC hd (by omega) (by simp) rfl vals_nil (suppV_0 c).symm hcv hca hcr hds a74 o70 o66) (fun v75 L1 Ln K76 h77 g78 g79 => ?_)))))
  obtain ⟨rfl, rfl, H80, H81, x82, rfl, o83, h84, h85, o86⟩ := h77
  refine nm ?_
  refine ln (qc (cS (cr (mv rfl (kl_callL rfl rfl (copyInts_ok ds (by omega) ‹_›) (fun v87 H88 f89 o90 => ?_))))))
  refine sg rfl (ln (qc (cS (cS (cr (sg rfl (ln (qc (bl (kc_loopL (A := Nat × List Int × Hp) (fun zz => (zz.1 ≤ c.vars.length) ∧ (zz.2.1 = filtTo c ds (suppV c ([] ++ extP (wordL c.vars ds) 0 [])) zz.1) ∧ OwnL 3 1 zz.2.2 noHp IntV v87 zz.2.1 ∧ Fr B zz.2.2) (fun zz => c.vars.length - zz.1) (fun zz => [zz.2.2, H80, H81]) (fun zz => [(7, .int .i64 (zz.1 : Int))]) (0, ds, H88) (pk [2, 4, 5, 6] rfl) (pc 7 rfl pn) rfl ⟨Nat.zero_le _, rfl, o90, f89⟩ ?_))))))))))
  rintro ⟨k, out, H93⟩ hJ96
  obtain ⟨hk91, hi92, o94, f95⟩ : (k ≤ c.vars.length) ∧ (out = filtTo c ds (suppV c ([] ++ extP (wordL c.vars ds) 0 [])) k) ∧ OwnL 3 1 H93 noHp IntV v87 out ∧ Fr B H93 := hJ96
  change KC _ _ (_) [H93, H80, H81] _ ([(7, .int .i64 (k : Int))] ++ _)
  have hln : out.length = ds.length := (by rw [hi92]; exact filtTo_len c ds _ k)
  refine cS (cS (cr (mv rfl (fd9 rfl ‹_› (fun p97 a98 => ?_)))))
  refine ld rfl ‹_› (le9 rfl ‹_› (fun l99 => ?_))
  refine ls9 rfl rfl ?_
  refine ln (qc (ci9 rfl (fun c100 => ?_) (fun c100 => ?_)))
  ·have hv2 := hC.at (k := k) (by omega)
   have hll := suppV_len c ([] ++ extP (wordL c.vars ds) 0 [])
   refine sk (qc (cS (bl (kc_tree (fun i => ([14] : List Nat).contains i) [H81] (by kernel_rfl) ?_))))
   refine kt_q 0 (.cons _ (.cons _ (.cons_cons _ nsl))) rfl (by kernel_rfl) (mv rfl (ln (qq (kt_q 1 (.cons _ (.cons _ (.cons_cons _ nsl))) rfl (by kernel_rfl) (fd9 rfl ‹_› (fun p101 a102 => ?_))))))
   refine ln (qq (kt_q 2 (.cons _ (.cons _ (.cons_cons _ nsl))) rfl (by kernel_rfl) (ld rfl ‹_› (ln (qq (kt_q 3 (.cons _ (.cons _ (.cons_cons _ nsl))) rfl (by kernel_rfl) (mv rfl (ln (qq (kt_q 4 (.cons _ (.cons _ (.cons_cons _ nsl))) rfl (by kernel_rfl) (kl_inI rfl rfl ‹_› (by omega) (fun p103 a104 => ?_))))))))))))
   refine ln (qq (kt_q 5 (.cons _ (.cons _ (.cons_cons _ nsl))) rfl (by kernel_rfl) (ld rfl ‹_› (ln (qq (kt_q 6 (.cons _ (.cons _ (.cons_cons _ nsl))) rfl (by kernel_rfl) (mv rfl (ln (qq (kt_q 7 (.cons _ (.cons _ (.cons_cons _ nsl))) rfl (by kernel_rfl) (kl_nilchkA rfl ‹_› ?_)))))))))))
   refine ln (qq (kt_q 8 (.cons _ (.cons _ (.cons_cons _ nsl))) rfl (by kernel_rfl) (fd9 rfl ‹_› (fun p105 a106 => ?_))))
   refine ln (qq (kt_q 9 (.cons _ (.cons _ (.cons_cons _ nsl))) rfl (by kernel_rfl) (ld rfl ‹_› (ln (qq (kt_q 10 (.cons _ (.cons _ (.cons_cons _ nsl))) rfl (by kernel_rfl) (mv rfl (ln (qq (kt_q 11 (.cons _ (.cons _ (.cons_cons _ nsl))) rfl (by kernel_rfl) (kl_ixLn rfl rfl ‹_› (by omega) (fun p107 q108 => ?_))))))))))))
   refine ln (qq (kt_q 12 (.cons _ (.cons _ (.cons_cons _ nsl))) rfl (by kernel_rfl) (kl_ldLIe rfl ‹_› ‹_› (by omega) ?_)))
   refine ln (qq (kt_q 13 (.cons _ (.cons _ (.cons_cons _ nsl))) rfl (by kernel_rfl) (kl_ixL rfl rfl ‹_› (by omega) (by omega) (fun p109 q110 => ?_))))
   refine ln (qq (ta 14 rfl (kl_stL ((suppV c ([] ++ extP (wordL c.vars ds) 0 [])).getD k 0) rfl rfl ‹_› o94 (by omega) rfl rfl rfl (fun H111 o112 f113 => ?_))))
   have f114 := f113 _ f95
   refine cg [H111, H80, H81] rfl ?_
   refine ln (qx rfl (kt_end (by kernel_rfl) ?_))
   refine qc (cr (mv rfl (ic9 rfl rfl (by omega) ?_)))
   refine sg rfl (ln (tk [H111, H80, H81] ?_))
   refine rL ((k + 1), (out.set ((c.vars.getD k 0).toNat) ((suppV c ([] ++ extP (wordL c.vars ds) 0 [])).getD k 0)), H111) (by omega) (⟨by omega, (by rw [hi92, filtTo_succ]), o112, f114⟩) (pc 7 rfl pn) (pk [2, 4, 5, 6] rfl) rfl slr9
  ·refine ex9 (qc (cS (cr (mv rfl (sg rfl (ln (qc (rt ?_))))))))
   have e9 : out = filtL c ds := by (rw [hi92, show k = c.vars.length from by omega, List.nil_append, extP_all]; rfl)
   exact kq_ret rfl rfl H93 f95 (e9 ▸ OwnL.ints o94)
theorem isCons_ok {Hmd : Hp} {vmd : Value} {Hmc : Hp} {vmc : Value} {Hds : Hp} {vds : Value} (m : Mod) (ds : List Int) (hM : MOk m) (hd : DOk m.doms.length ds) (hmd : Ints Hmd vmd m.doms) (hmc : Cons Hmc vmc m.cons) (hds : Ints Hds vds ds) : SpecP Tryz.prog 157 [.agg #[vmd, vmc], vds] [Hmd, Hmc, Hds] (.bool (consB m.cons ds)) := by
 refine spec_of Tryz.func157 rfl rfl rfl (fun B => ?_)
 refine cS (cr (kl_box rfl rfl (fun p1 H2 f3 a4 => ?_)))
 refine sg rfl (ln (qc (cS (cS (cr (sg rfl (ln (qc (bl (kc_loop0 (A := Nat) (fun zz => (zz ≤ m.cons.length) ∧ ((m.cons.take zz).all (fun c => decide (filtL c ds = ds)) = true)) (fun zz => m.cons.length - zz) (fun zz => [(5, .int .i64 (zz : Int))]) (0) (pk [1, 2] rfl) (pc 5 rfl pn) ⟨Nat.zero_le _, rfl⟩ ?_))))))))))
 rintro k hJ7
 obtain ⟨hk5, hi6⟩ : (k ≤ m.cons.length) ∧ ((m.cons.take k).all (fun c => decide (filtL c ds = ds)) = true) := hJ7
 change KC _ _ (_) _ _ ([(5, .int .i64 (k : Int))] ++ _)
 refine cS (cS (cr (mv rfl (fd9 rfl ‹_› (fun p8 a9 => ?_)))))
 refine ld rfl ‹_› (le9 rfl ‹_› (fun l10 => ?_))
 refine ls9 rfl rfl ?_
 refine ln (qc (ci9 rfl (fun c11 => ?_) (fun c11 => ?_)))
 ·have hC : ConOk (m.cons.getD k nilCon) ds.length := (by rw [hd.l]; exact ⟨hM.c (by omega)⟩)
  refine sk (qc (cS (bl (cS (cr (fd9 rfl ‹_› (fun p12 a13 => ?_)))))))
  refine ld rfl ‹_› (mv rfl (kl_inC rfl rfl ‹_› (by omega) (fun p14 u16 u17 u18 h19 h20 h21 a15 => ?_)))
  refine kl_ldS rfl ‹_› rfl ?_
  refine mv rfl (kl_call rfl rfl (supported_ok (m.cons.getD k nilCon) ds hC hd.d ‹_› ‹_› ‹_› ‹_›) (fun v22 H23 f24 h25 => ?_))
  refine mv rfl (cP rfl rfl (sequal_ok (filtL (m.cons.getD k nilCon) ds) ds ‹_› ‹_›) ?_)
  refine nt9 rfl (ln (qc (cd9 rfl (fun c26 => ?_) (fun c26 => ?_))))
  ·have c26r := c26
   try simp only [smpE] at c26
   refine cS (cr (sg rfl (ln (qc (rt (kq_retP rfl rfl (congrArg Value.bool ?_)))))))
   exact cons_no (k := k) (by omega) ‹_›
  ·have c26r := c26
   try simp only [smpE] at c26
   refine sk (qc (cr (mv rfl (ic9 rfl rfl (by omega) ?_))))
   refine sg rfl (ln (kq_round0 ((k + 1)) (by omega) (⟨by omega, cons_step (by omega) hi6 ‹_›⟩) (pc 5 rfl pn) (pk [1, 2] rfl) slr9))
 ·refine ex9 (qc (cS (cr (sg rfl (ln (qc (rt (kq_retP rfl rfl (congrArg Value.bool ?_)))))))))
  exact (by rw [List.take_of_length_le (by omega)] at hi6; exact hi6.symm)
theorem fixS_ok {Hmd : Hp} {vmd : Value} {Hmc : Hp} {vmc : Value} {Hds : Hp} {vds : Value} (m : Mod) (ds : List Int) (hM : MOk m) (hd : DOk m.doms.length ds) (hmd : Ints Hmd vmd m.doms) (hmc : Cons Hmc vmc m.cons) (hds : Ints Hds vds ds) : Spec Tryz.prog 117 [.agg #[vmd, vmc], vds] [Hmd, Hmc, Hds] (fun Hq vq => Ints Hq vq (prop m ds)) := by
 refine spec_of Tryz.func117 rfl rfl rfl (fun B => ?_)
 refine cS (cr (kl_box rfl rfl (fun p1 H2 f3 a4 => ?_)))
 refine sg rfl (ln (qc (cS (cr (mv rfl (kl_call rfl rfl (copyInts_ok ds (by have := hd.l; have := hM.n; omega) ‹_›) (fun v5 H6 f7 o8 => ?_)))))))
 have h9 := OwnL.ints o8
 refine sg rfl (ln (qc (cS (bl (kc_loopK (A := List Int × Value × Hp) (fun zz => (DOk m.doms.length zz.1 ∧ prop m zz.1 = prop m ds) ∧ Fr B zz.2.2 ∧ Ints zz.2.2 zz.2.1 zz.1) (fun zz => sumN zz.1) (fun zz => zz.2.2) (fun zz => []) (fun zz => [(5, zz.2.1)]) (ds, v5, H6) (pk [2, 4] rfl) (pc 5 rfl pn) rfl ⟨⟨hd, rfl⟩, f7, ‹_›⟩ ?_)))))
 rintro ⟨xs, v12, K13⟩ hJ16
 obtain ⟨hi11, f14, h15⟩ : (DOk m.doms.length xs ∧ prop m xs = prop m ds) ∧ Fr B K13 ∧ Ints K13 v12 xs := hJ16
 change KC _ _ (K13 :: _) [] _ ([(5, v12)] ++ _)
 have hD := hi11.1
 refine cS (cS (cr (kl_ldS rfl ‹_› rfl ?_)))
 refine mv rfl (cP rfl rfl (isCons_ok m xs hM hD ‹_› ‹_› ‹_›) ?_)
 refine nt9 rfl (mv rfl (jn 4 17 (.bool (!(consB m.cons xs) && !(xs.contains 0))) (pk [2, 4, 5, 9, 10, 11, 12, 13] rfl) (fun J18 => ?_) ?_))
 ·rcases Bool.eq_false_or_eq_true (!(consB m.cons xs)) with g17 | g17
  ·have g17p := g17
   try simp only [smpD] at g17p
   refine gT rfl rfl g17 (mv rfl (gT rfl rfl g17 (cP rfl rfl (hasEmpty_ok xs ‹_›) ?_)))
   refine gT rfl rfl g17 (nt9 rfl (aT rfl rfl g17 ?_))
   exact J18 _ (pk [17, 2, 4, 5, 9, 10, 11, 12, 13] rfl)
  ·refine gF rfl rfl g17 (gF rfl rfl g17 (gF rfl rfl g17 (aF (!(xs.contains 0)) rfl rfl g17 ?_)))
   exact J18 _ (pk [17, 2, 4, 5, 9, 10, 11, 12, 13] rfl)
 refine ln (qc (cd9 rfl (fun c19 => ?_) (fun c19 => ?_)))
 ·have c19r := c19
  try simp only [smpE] at c19
  have hgo := fix_go hM hD c19r
  refine sk (qc (bl (cS (cr (sg rfl (ln (qc (bl (kc_loopK (A := Nat × List Int × Value × Hp) (fun zz => (zz.1 ≤ m.cons.length) ∧ (zz.2.1 = filtC (m.cons.take zz.1) xs) ∧ Fr B zz.2.2.2 ∧ Ints zz.2.2.2 zz.2.2.1 zz.2.1) (fun zz => m.cons.length - zz.1) (fun zz => zz.2.2.2) (fun zz => []) (fun zz => [(6, .int .i64 (zz.1 : Int)), (5, zz.2.2.1)]) (0, xs, v12, K13) (pk [2, 4, 9, 10, 11, 12, 13, 17] rfl) (pk [6, 5] rfl) rfl ⟨Nat.zero_le _, rfl, f14, ‹_›⟩ ?_)))))))))
  rintro ⟨k2, ys, v22, K23⟩ hJ26
  obtain ⟨hk20, hi21, f24, h25⟩ : (k2 ≤ m.cons.length) ∧ (ys = filtC (m.cons.take k2) xs) ∧ Fr B K23 ∧ Ints K23 v22 ys := hJ26
  change KC _ _ (K23 :: _) [] _ ([(6, .int .i64 (k2 : Int)), (5, v22)] ++ _)
  refine cS (cS (cr (mv rfl (fd9 rfl ‹_› (fun p27 a28 => ?_)))))
  refine ld rfl ‹_› (le9 rfl ‹_› (fun l29 => ?_))
  refine ls9 rfl rfl ?_
  refine ln (qc (ci9 rfl (fun c30 => ?_) (fun c30 => ?_)))
  ·have hE := filtC_at hM hD hi21
   have hC : ConOk (m.cons.getD k2 nilCon) ys.length := (by rw [hE.l]; exact ⟨hM.c (by omega)⟩)
   refine sk (qc (cS (bl (cr (fd9 rfl ‹_› (fun p31 a32 => ?_))))))
   refine ld rfl ‹_› (mv rfl (kl_inC rfl rfl ‹_› (by omega) (fun p33 u35 u36 u37 h38 h39 h40 a34 => ?_)))
   refine kl_ldS rfl ‹_› rfl ?_
   refine mv rfl (kl_call rfl rfl (supported_ok (m.cons.getD k2 nilCon) ys hC hE.d ‹_› ‹_› ‹_› ‹_›) (fun v41 H42 f43 h44 => ?_))
   refine sg rfl (ln (qc (cr (mv rfl (ic9 rfl rfl (by omega) ?_)))))
   refine sg rfl (ln (kq_roundK ((k2 + 1), (filtL (m.cons.getD k2 nilCon) ys), v41, H42) (by omega) (⟨by omega, (by rw [filtC_step (by omega), ← hi21]), f43, ‹_›⟩) (pk [6, 5] rfl) (pk [2, 4, 9, 10, 11, 12, 13, 17] rfl) rfl slr9))
  ·refine ex9 (kq_roundK (ys, v22, K23) (by (dsimp only; rw [hi21, List.take_of_length_le (by omega)]; exact filtA_lt hM hD hgo.1)) (⟨(by rw [hi21, List.take_of_length_le (by omega)]; exact ⟨(filtA_ok hM hD).1, (prop_step hM hD hgo.2 hgo.1).trans hi11.2⟩), f24, ‹_›⟩) (pc 5 rfl pn) (pk [2, 4] rfl) rfl slr9)
 ·have c19r := c19
  try simp only [smpE] at c19
  have hend := fix_end hM hD c19r
  refine ex9 (qc (cS (cS (cr (mv rfl (cP rfl rfl (hasEmpty_ok xs ‹_›) ?_))))))
  refine ln (qc (cd9 rfl (fun c45 => ?_) (fun c45 => ?_)))
  ·have c45r := c45
   try simp only [smpE] at c45
   refine cS (cr (mv rfl (le9 rfl ‹_› (fun l46 => ?_))))
   refine kl_mkL (R := IntV) (0 : Int) rfl rfl (by (have := hD.l; have := hM.n; omega)) (by decide) (by exact rfl) (fun v47 H48 f49 o50 => ?_)
   refine sg rfl (ln (qc (rt ?_)))
   have e9 : (List.replicate xs.length (0 : Int)) = prop m ds := by (rw [← hi11.2]; exact (prop_0 ‹_›).symm)
   exact kq_ret rfl rfl H48 f49 (e9 ▸ OwnL.ints o50)
  ·have c45r := c45
   try simp only [smpE] at c45
   refine sk (qc (cS (cr (mv rfl (sg rfl (ln (qc (rt ?_))))))))
   have e9 : xs = prop m ds := by (rw [← hi11.2]; exact (hend ‹_›).symm)
   exact kq_ret rfl rfl K13 f14 (e9 ▸ (by assumption : Ints _ _ xs))
end
section
abbrev branchSt (k : Nat) : Prop := ∀ {b : Nat} {Hmd Hmc Hds Hf Kf : Hp} {vmd vmc vds vf : Value} (m : Mod) (ds : List Int) (found : List (List Int)) (nd : Int) (hM : MOk m) (hd : DOk m.doms.length ds) (hk : sumN ds = k) (hroom : found.length + (solT m ds).length < 4096) (lq : Liq Kf)
  (hmd : Ints Hmd vmd m.doms) (hmc : Cons Hmc vmc m.cons) (hds : Ints Hds vds ds) (of : OwnL 23 1 Hf Kf RowV vf found),
  SpecT Tryz.prog 108 [.pointer (some ⟨b, 0, none⟩), vds] [bxS b [vmd, vmc, .int .i64 4096, .int .i64 nd, vf] 127, Hf, Kf] [Hmd, Hmc, Hds] (fun vq L1 Ln _ => vq = .tuple #[] ∧ Ln = [] ∧ ∃ (nd2 : Int) (vf2 : Value) (Hf2 Kf2 : Hp), L1 = [bxS b [vmd, vmc, .int .i64 4096, .int .i64 nd2, vf2] 127, Hf2, Kf2] ∧ OwnL 23 1 Hf2 Kf2 RowV vf2 (found ++ solT m ds) ∧ Liq Kf2)
theorem branch_step (k : Nat) (ih : ∀ j, j < k → branchSt j) : branchSt k := by
 intro b Hmd Hmc Hds Hf Kf vmd vmc vds vf m ds found nd hM hd hk hroom lq hmd hmc hds of
 have hn := hM.n
 have hp := propOk hM hd
 have hpl := hp.ok.l
 refine specT_of Tryz.func108 rfl rfl rfl (fun B => ?_)
 refine cS (cr (mv rfl (mv rfl (kl_nilchk rfl ?_))))
 refine fV rfl (lB rfl rfl (kl_addK (κ := .i64) rfl rfl ?_))
 refine kl_nilchk rfl ?_
 refine fV rfl (sB rfl rfl rfl rfl rfl ?_)
 refine cg [bxS b [vmd, vmc, .int .i64 (4096 : Int), .int .i64 (IntKind.wrap .i64 (nd + (1 : Int))), vf] 127, Hf, Kf] rfl ?_
 refine ln (qc (cS (cr (mv rfl (kl_nilchk rfl ?_)))))
 refine fV rfl (kl_ldSL rfl (At.take 2 (at_box (T := 127) (cs := [vmd, vmc, .int .i64 (4096 : Int), .int .i64 (IntKind.wrap .i64 (nd + (1 : Int))), vf]) (off := 0) (fz := (0, 0)))) rfl ?_)
 refine mv rfl (kl_call rfl rfl (fixS_ok m ds hM hd ‹_› ‹_› ‹_›) (fun v1 H2 f3 h4 => ?_))
 refine sg rfl (ln (qc (cS (cS (cr (mv rfl (cP rfl rfl (hasEmpty_ok (prop m ds) ‹_›) ?_)))))))
 refine ln (qc (cd9 rfl (fun c5 => ?_) (fun c5 => ?_)))
 ·have c5r := c5
  try simp only [smpE] at c5
  refine rt ?_
  exact kq_retT0 rfl [bxS b [vmd, vmc, .int .i64 (4096 : Int), .int .i64 (IntKind.wrap .i64 (nd + (1 : Int))), vf] 127, Hf, Kf] [] noHp frn (fr_no _) ⟨rfl, rfl, (IntKind.wrap .i64 (nd + (1 : Int))), vf, Hf, Kf, rfl, OwnL.cast (by rw [solT_empty hM hd ‹_›, List.append_nil]) of, lq⟩
 ·have c5r := c5
  try simp only [smpE] at c5
  have hne : (prop m ds).contains 0 = false := (by simpa using c5r)
  refine sk (qc (cS (cr (sg rfl (ln (qc (cS (bl (kc_loop0 (A := Nat) (fun zz => (zz ≤ (prop m ds).length) ∧ (∀ j, j < zz → (valsI ((prop m ds).getD j 0)).length = 1)) (fun zz => (prop m ds).length - zz) (fun zz => [(5, .int .i64 (zz : Int))]) (0) (pk [0, 4] rfl) (pc 5 rfl pn) ⟨Nat.zero_le _, (fun _ h => absurd h (Nat.not_lt_zero _))⟩ ?_)))))))))
  rintro i hJ8
  obtain ⟨hk6, hi7⟩ : (i ≤ (prop m ds).length) ∧ (∀ j, j < i → (valsI ((prop m ds).getD j 0)).length = 1) := hJ8
  change KC _ _ (_) _ _ ([(5, .int .i64 (i : Int))] ++ _)
  refine cS (cS (cr (mv rfl (mv rfl (le9 rfl ‹_› (fun l9 => ?_))))))
  refine ls9 rfl rfl ?_
  refine mv rfl (jn 8 39 (.bool (decide ((i : Int) < ((prop m ds).length : Int)) && decide (((valsI ((prop m ds).getD i 0)).length : Int) = (1 : Int)))) (pk [0, 4, 5, 27, 28, 29, 30, 31] rfl) (fun J18 => ?_) ?_)
  ·rcases Bool.eq_false_or_eq_true (decide ((i : Int) < ((prop m ds).length : Int))) with g10 | g10
   ·have g10p := of_decide_eq_true g10
    refine gT rfl rfl g10 (mv rfl (gT rfl rfl g10 (mv rfl (gT rfl rfl g10 (kl_inI rfl rfl ‹_› (by first | omega | (simp; omega)) (fun p11 a12 => ?_))))))
    refine gT rfl rfl g10 (ld rfl ‹_› (gT rfl rfl g10 (kl_call rfl rfl (domainValues_ok ((prop m ds).getD i 0)) (fun v13 H14 f15 h16 => ?_))))
    refine gT rfl rfl g10 (le9 rfl ‹_› (fun l17 => ?_))
    refine gT rfl rfl g10 (eq9 rfl rfl ?_)
    refine aT rfl rfl g10 ?_
    exact kl_fg slr9 (J18 _ (pk [39, 0, 4, 5, 27, 28, 29, 30, 31] rfl))
   ·refine gF rfl rfl g10 (gF rfl rfl g10 (gF rfl rfl g10 (gF rfl rfl g10 (gF rfl rfl g10 (gF rfl rfl g10 (gF rfl rfl g10 (aF (decide (((valsI ((prop m ds).getD i 0)).length : Int) = (1 : Int))) rfl rfl g10 ?_)))))))
    exact J18 _ (pk [39, 0, 4, 5, 27, 28, 29, 30, 31] rfl)
  refine ln (qc (cd9 rfl (fun c19 => ?_) (fun c19 => ?_)))
  ·have c19r := c19
   try simp only [smpE] at c19
   have hgo := br_go c19r
   refine sk (qc (bl (cr (mv rfl (ic9 rfl rfl (by omega) ?_)))))
   refine sg rfl (ln (kq_round0 ((i + 1)) (by (have := hgo.1; omega)) (⟨(by have := hgo.1; omega), (by intro j hj; rcases Nat.lt_succ_iff_lt_or_eq.1 hj with h9 | h9; (exact hi7 j h9); (subst h9; have := hgo.2; omega))⟩) (pc 5 rfl pn) (pk [0, 4] rfl) slr9))
  ·have c19r := c19
   try simp only [smpE] at c19
   have hex := br_exit c19r
   refine ex9 (qc (cS (cS (cr (mv rfl (mv rfl (le9 rfl ‹_› (fun l20 => ?_))))))))
   refine eq9 rfl rfl ?_
   refine ln (qc (ci9 rfl (fun c21 => ?_) (fun c21 => ?_)))
   ·refine cS (cr (kl_bsI [] rfl rfl rfl (by decide) (fun v22 H23 f24 o25 => ?_)))
    refine sg rfl (ln (qc (cS (cS (cr (sg rfl (ln (qc (bl (kc_loopL (A := Nat × List Int × Value × Hp) (fun zz => (zz.1 ≤ (prop m ds).length) ∧ (zz.2.1 = firstL ((prop m ds).take zz.1)) ∧ OwnL 3 1 zz.2.2.2 noHp IntV zz.2.2.1 zz.2.1 ∧ Fr B zz.2.2.2) (fun zz => (prop m ds).length - zz.1) (fun zz => [zz.2.2.2, bxS b [vmd, vmc, .int .i64 (4096 : Int), .int .i64 (IntKind.wrap .i64 (nd + (1 : Int))), vf] 127, Hf, Kf]) (fun zz => [(7, .int .i64 (zz.1 : Int)), (6, zz.2.2.1)]) (0, ([]), v22, H23) (pk [0, 4, 5] rfl) (pk [7, 6] rfl) rfl ⟨Nat.zero_le _, rfl, o25, f24⟩ ?_))))))))))
    rintro ⟨j, x, v31, H28⟩ hJ32
    obtain ⟨hk26, hi27, o29, f30⟩ : (j ≤ (prop m ds).length) ∧ (x = firstL ((prop m ds).take j)) ∧ OwnL 3 1 H28 noHp IntV v31 x ∧ Fr B H28 := hJ32
    change KC _ _ (_) [H28, bxS b [vmd, vmc, .int .i64 (4096 : Int), .int .i64 (IntKind.wrap .i64 (nd + (1 : Int))), vf] 127, Hf, Kf] _ ([(7, .int .i64 (j : Int)), (6, v31)] ++ _)
    refine cS (cS (cr (mv rfl (mv rfl (le9 rfl ‹_› (fun l33 => ?_))))))
    refine ls9 rfl rfl ?_
    refine ln (qc (ci9 rfl (fun c34 => ?_) (fun c34 => ?_)))
    ·have hj1 := hi7 j (by omega)
     refine sk (qc (cS (bl (cr (mv rfl (mv rfl (mv rfl (kl_inI rfl rfl ‹_› (by first | omega | (simp; omega)) (fun p35 a36 => ?_)))))))))
     refine ld rfl ‹_› (kl_call rfl rfl (domainValues_ok ((prop m ds).getD j 0)) (fun v37 H38 f39 h40 => ?_))
     refine kl_inI (i := 0) rfl rfl ‹_› (by first | omega | (simp; omega)) (fun p41 a42 => ?_)
     refine ld rfl ‹_› (bs9 rfl rfl rfl (by decide) (ca rfl ca_nil) (fun v43 H44 f45 r46 s47 => ?_))
     have h48 : Ints H44 v43 [((valsI ((prop m ds).getD j 0)).getD 0 0)] := litInts (xs := [((valsI ((prop m ds).getD j 0)).getD 0 0)]) (by simpa using s47)
     refine aL9 ((valsI ((prop m ds).getD j 0)).getD 0 0) rfl rfl o29 ‹_› rfl (oc rfl oc_nil) (by (first | omega | (have h5 := congrArg List.length hi27; simp [firstL] at h5; omega))) (by decide) (fun v49 H50 o51 f52 => ?_)
     have f53 := f52 B f30 (Nat.le_refl _)
     refine sg rfl (ln (qc (cr (mv rfl (ic9 rfl rfl (by omega) ?_)))))
     refine sg rfl (ln (tk [H50, bxS b [vmd, vmc, .int .i64 (4096 : Int), .int .i64 (IntKind.wrap .i64 (nd + (1 : Int))), vf] 127, Hf, Kf] ?_))
     refine rL ((j + 1), (x ++ [((valsI ((prop m ds).getD j 0)).getD 0 0)]), v49, H50) (by omega) (⟨by omega, (by rw [hi27]; exact firstL_take (by omega)), o51, f53⟩) (pk [7, 6] rfl) (pk [0, 4, 5] rfl) rfl slr9
    ·refine ex9 (qc (cS (cr (mv rfl (mv rfl (kl_nilchk rfl ?_))))))
     refine fV rfl (lB rfl rfl (mv rfl (bs9 rfl rfl rfl (by decide) (ca (by first | exact Sl.cells ‹_› | exact OwnL.cells ‹_›) ca_nil) (fun v54 H55 f56 r57 s58 => ?_))))
     have h59 := OwnL.ints o29
     refine cm9 Kf H28 (fun c60 => ?_)
     have o61 := OwnL.mono (K' := orHp Kf H28) of orL
     refine aL9 x rfl rfl o61 ‹_› ⟨_, rfl, Sl.mono ‹_› (orC c60) (fun _ _ h => h)⟩ (oc (OwnL.oneCell ‹_›) oc_nil) (by (first | omega | (have h5 := congrArg List.length hi27; simp [firstL] at h5; omega))) (by decide) (fun v62 H63 o64 f65 => ?_)
     refine kl_nilchk rfl ?_
     refine fV rfl (sB rfl rfl rfl (OwnL.oneCell ‹_›) (OwnL.cells ‹_›) ?_)
     refine cg [H28, bxS b [vmd, vmc, .int .i64 (4096 : Int), .int .i64 (IntKind.wrap .i64 (nd + (1 : Int))), v62] 127, H63, Kf] rfl ?_
     refine ln (qc (rt (kq_mrg Kf H28 ?_)))
     exact kq_retT0 rfl [bxS b [vmd, vmc, .int .i64 (4096 : Int), .int .i64 (IntKind.wrap .i64 (nd + (1 : Int))), v62] 127, H63, (orHp Kf H28)] [] noHp frn (fr_no _) ⟨rfl, rfl, (IntKind.wrap .i64 (nd + (1 : Int))), v62, H63, (orHp Kf H28), rfl, OwnL.cast (by rw [solT_leaf hM hd hne (by intro j hj; exact hi7 j (by omega)), hi27, List.take_of_length_le (by omega)]) o64, (liq_or lq f30.2)⟩
   ·have hi0 : i < (prop m ds).length := (by omega)
    have hne1 : (valsI ((prop m ds).getD i 0)).length ≠ 1 := (by rcases hex with h9 | h9 <;> omega)
    refine sk (qc (cS (cr (mv rfl (mv rfl (kl_inI rfl rfl ‹_› (by first | omega | (simp; omega)) (fun p67 a68 => ?_)))))))
    refine ld rfl ‹_› (kl_call rfl rfl (domainValues_ok ((prop m ds).getD i 0)) (fun v69 H70 f71 h72 => ?_))
    refine sg rfl (ln (qc (cS (cr (sg rfl (ln (qc (bl (kc_loopL (A := Nat × Int × List (List Int) × Value × Hp × Hp) (fun zz => (zz.1 ≤ (valsI ((prop m ds).getD i 0)).length) ∧ (zz.2.2.1 = found ++ brTo m (prop m ds) i zz.1 ∧ True) ∧ Liq zz.2.2.2.2.2 ∧ OwnL 23 1 zz.2.2.2.2.1 zz.2.2.2.2.2 RowV zz.2.2.2.1 zz.2.2.1) (fun zz => (valsI ((prop m ds).getD i 0)).length - zz.1) (fun zz => [bxS b [vmd, vmc, .int .i64 (4096 : Int), .int .i64 zz.2.1, zz.2.2.2.1] 127, zz.2.2.2.2.1, zz.2.2.2.2.2]) (fun zz => [(9, .int .i64 (zz.1 : Int))]) (0, (IntKind.wrap .i64 (nd + (1 : Int))), found, vf, Hf, Kf) (pk [0, 4, 5, 8] rfl) (pc 9 rfl pn) rfl ⟨Nat.zero_le _, ⟨by rw [brTo_0, List.append_nil], trivial⟩, lq, of⟩ ?_)))))))))
    rintro ⟨k, nd1, fnd, v78, H75, K79⟩ hJ81
    obtain ⟨hk73, hi74, l80, o76⟩ : (k ≤ (valsI ((prop m ds).getD i 0)).length) ∧ (fnd = found ++ brTo m (prop m ds) i k ∧ True) ∧ Liq K79 ∧ OwnL 23 1 H75 K79 RowV v78 fnd := hJ81
    change KC _ _ (_) [bxS b [vmd, vmc, .int .i64 (4096 : Int), .int .i64 nd1, v78] 127, H75, K79] _ ([(9, .int .i64 (k : Int))] ++ _)
    refine cS (cS (kc_draw 16 [true, true, true, true, true, true, true, true, true, true, true, true, true, true, true, true] (by kernel_rfl) (by kernel_rfl) ?_))
    refine mv rfl (mv rfl (le9 rfl ‹_› (fun l82 => ?_)))
    refine ls9 rfl rfl ?_
    refine mv rfl (jn 11 93 (.bool (decide ((k : Int) < ((valsI ((prop m ds).getD i 0)).length : Int)) && decide ((fnd.length : Int) < (4096 : Int)))) (pk [0, 4, 5, 8, 9, 78, 79, 80, 81, 82] rfl) (fun J85 => ?_) ?_)
    ·rcases Bool.eq_false_or_eq_true (decide ((k : Int) < ((valsI ((prop m ds).getD i 0)).length : Int))) with g83 | g83
     ·have g83p := of_decide_eq_true g83
      refine gT rfl rfl g83 (mv rfl (gT rfl rfl g83 (kl_nilchk rfl ?_)))
      refine gT rfl rfl g83 (fV rfl (gT rfl rfl g83 (lB rfl rfl (gT rfl rfl g83 (lL rfl o76 (fun l84 => ?_))))))
      refine gT rfl rfl g83 (mv rfl (gT rfl rfl g83 (kl_nilchk rfl ?_)))
      refine gT rfl rfl g83 (fV rfl (gT rfl rfl g83 (lB rfl rfl (gT rfl rfl g83 (ls9 rfl rfl ?_)))))
      refine aT rfl rfl g83 ?_
      exact J85 _ (pk [93, 0, 4, 5, 8, 9, 78, 79, 80, 81, 82] rfl)
     ·refine gF rfl rfl g83 (gF rfl rfl g83 (gF rfl rfl g83 (gF rfl rfl g83 (gF rfl rfl g83 (gF rfl rfl g83 (gF rfl rfl g83 (gF rfl rfl g83 (gF rfl rfl g83 ?_))))))))
      refine gF rfl rfl g83 (aF (decide ((fnd.length : Int) < (4096 : Int))) rfl rfl g83 ?_)
      exact J85 _ (pk [93, 0, 4, 5, 8, 9, 78, 79, 80, 81, 82] rfl)
    refine ln (qc (cd9 rfl (fun c86 => ?_) (fun c86 => ?_)))
    ·have c86r := c86
     try simp only [smpE] at c86
     have hlt := br_lt c86r
     have hv := getD_mem (d := (0 : Int)) hlt.1
     have hvv := valsI_mem hv
     refine sk (qc (cS (bl (cS (cr (mv rfl (kl_callL rfl rfl (copyInts_ok (prop m ds) (by omega) ‹_›) (fun v87 H88 f89 o90 => ?_))))))))
     refine sg rfl (ln (qc (cS (cr (mv rfl (mv rfl (mv rfl (mv rfl (kl_inI rfl rfl ‹_› (by first | omega | (simp; omega)) (fun p91 a92 => ?_))))))))))
     refine ld rfl ‹_› (kl_shl rfl rfl (by omega) ?_)
     refine kl_ixLn rfl rfl ‹_› (by first | omega | (simp; omega)) (fun p93 q94 => ?_)
     refine kl_stL (ishl (1 : Int) ((valsI ((prop m ds).getD i 0)).getD k 0)) rfl rfl ‹_› o90 (by first | omega | (simp; omega)) rfl rfl rfl (fun H95 o96 f97 => ?_)
     have f98 := f97 _ f89
     refine cg [H95, bxS b [vmd, vmc, .int .i64 (4096 : Int), .int .i64 nd1, v78] 127, H75, K79] rfl ?_
     refine ln (qc (cr (mv rfl (mv rfl (cT rfl rfl (ih _ (by rw [← hk]; exact Nat.lt_of_lt_of_le (set_lt hp.ok hi0 hv hne1) (hp.sub.sum hp.ok.d hd.d)) m ((prop m ds).set i (ishl (1 : Int) ((valsI ((prop m ds).getD i 0)).getD k 0))) fnd nd1 hM (set_ok hp.ok (valsI_mem hv)) rfl (by have := brTo_le' (m := m) hi0 hi7 (k + 1); rw [brTo_succ (by omega), List.length_append, hp.sol] at this; rw [hi74.1, List.length_append]; omega) l80 hmd hmc (OwnL.ints o96) o76) (fun v99 L1 Ln K100 h101 g102 g103 => ?_))))))
     obtain ⟨rfl, rfl, n104, v105, H106, K107, rfl, o108, l109⟩ := h101
     refine nm ?_
     refine ln (qc (cr (mv rfl (ic9 rfl rfl (by omega) ?_))))
     refine sg rfl (ln (tk [bxS b [vmd, vmc, .int .i64 (4096 : Int), .int .i64 n104, v105] 127, H106, K107] ?_))
     refine rL ((k + 1), n104, (fnd ++ solT m ((prop m ds).set i (ishl (1 : Int) ((valsI ((prop m ds).getD i 0)).getD k 0)))), v105, H106, K107) (by (have := hlt.1; omega)) (⟨(by have := hlt.1; omega), ⟨(by rw [brTo_succ (by omega), hi74.1, List.append_assoc]), trivial⟩, l109, o108⟩) (pc 9 rfl pn) (pk [0, 4, 5, 8] rfl) rfl slr9
    ·have c86r := c86
     try simp only [smpE] at c86
     have hbx := brTo_le' (m := m) hi0 hi7 k
     rw [hp.sol] at hbx
     have hfl := congrArg List.length hi74.1
     rw [List.length_append] at hfl
     have hke := br_out (y := 4096) c86r (by omega)
     refine ex9 ?_
     exact kq_retT0 rfl [bxS b [vmd, vmc, .int .i64 (4096 : Int), .int .i64 nd1, v78] 127, H75, K79] [] noHp frn (fr_no _) ⟨rfl, rfl, nd1, v78, H75, K79, rfl, OwnL.cast (by rw [hi74.1, brTo_all hi0 hi7 (by omega), hp.sol]) o76, l80⟩
theorem branch_ok (k : Nat) : branchSt k := by
 induction k using Nat.strongRecOn with
 | _ k ih => exact @branch_step k ih
theorem solve_ok {Hmd : Hp} {vmd : Value} {Hmc : Hp} {vmc : Value} (m : Mod) (hM : MOk m) (hmd : Ints Hmd vmd m.doms) (hmc : Cons Hmc vmc m.cons) : Spec Tryz.prog 70 [.agg #[vmd, vmc], .int .i64 (4096 : Int)] [Hmd, Hmc] (fun Hq vq => ∃ (rq : List (List Int)) (z : Int) (uq0 : Value), vq = .tuple #[uq0, .int .i64 z] ∧ Rows Hq uq0 rq ∧ rq = sols m) := by
 refine spec_of Tryz.func70 rfl rfl rfl (fun B => ?_)
 refine cS (cr (kl_box rfl rfl (fun p1 H2 f3 a4 => ?_)))
 refine sg rfl (sg rfl (ln (qc (cS (cr (kl_ldS rfl ‹_› rfl ?_))))))
 refine mv rfl (kl_bdA [(0, [vmd, vmc]), (1, [.int .i64 (4096 : Int)])] [vmd, vmc, .int .i64 (4096 : Int), .int .i64 (0 : Int), .slice none 0 0] rfl (cpa rfl (cpa rfl cpa_nil)) rfl ?_)
 refine kl_boxL (cs := [vmd, vmc, .int .i64 (4096 : Int), .int .i64 (0 : Int), .slice none 0 0]) rfl rfl (fun b5 hb6 => ?_)
 refine sg rfl (ln (qc (cS (cr (mv rfl (fd9 rfl ‹_› (fun p7 a8 => ?_)))))))
 refine ld rfl ‹_› (kl_no ?_)
 refine kl_no ?_
 refine cT rfl rfl (branch_ok _ m m.doms [] 0 hM hM.dok rfl (by have := solT_few (m := m) (ds := m.doms) hM.n.2; simp; omega) liq_no ‹_› ‹_› ‹_› (OwnL.nil (K := noHp) (R := RowV))) (fun v9 L1 Ln K10 h11 g12 g13 => ?_)
 obtain ⟨rfl, rfl, n14, v15, H16, K17, rfl, o18, l19⟩ := h11
 refine nm ?_
 refine kl_fr H16 (OwnL.liq o18) (fun f20 => ?_)
 refine kl_fr K17 l19 (fun f21 => ?_)
 refine ln (qc (cS (kc_draw 10 [true, true, true, true, true, true, true, true, true, true] (by kernel_rfl) (by kernel_rfl) ?_)))
 refine mv rfl (kl_nilchk rfl ?_)
 refine fV rfl (lB rfl rfl (mv rfl (kl_nilchk rfl ?_)))
 refine fV rfl (lB rfl rfl (sg rfl (sg rfl (ln (qc (rt (kq_frz H16 ?_)))))))
 refine kq_cmp H16 K17 (fun c22 => ?_)
 exact kq_ret2 rfl rfl rfl (orHp H16 K17) (fr_or f20 f21) ⟨([] ++ solT m m.doms), n14, _, rfl, (OwnL.rowsK o18 c22), by simp [sols]⟩
end
section
/-! The law. -/
end
end Go.Proofs.YtolndgeihijlbaaGreat
