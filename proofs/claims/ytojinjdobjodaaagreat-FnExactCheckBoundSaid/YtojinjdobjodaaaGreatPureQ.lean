/- Constraints at values, and quantified formulas: the plain functions. No program in sight. Conditions: none. -/
import Derived.Test.YtojinjdobjodaaaGreatPure
namespace Go.Proofs.YtojinjdobjodaaaGreat
open Go
set_option linter.unusedSimpArgs false
set_option linter.unusedVariables false
/-! ### Small cases, asked one by one -/
theorem fin_nat {n : Nat} {p : Int → Prop} (h : ∀ i, i < n → p ((i : Nat) : Int)) {x : Int} (h0 : 0 ≤ x) (h1 : x < n) : p x := by
  obtain ⟨i, rfl⟩ := Int.eq_ofNat_of_zero_le h0
  exact h i (by omega)
/-- Lists of at most four values. -/
theorem fin_list {p : List Int → Prop} (h0 : p []) (h1 : ∀ a, a < 6 → p [((a : Nat) : Int)]) (h2 : ∀ a, a < 6 → ∀ b, b < 6 → p [((a : Nat) : Int), ((b : Nat) : Int)])
    (h3 : ∀ a, a < 6 → ∀ b, b < 6 → ∀ c, c < 6 → p [((a : Nat) : Int), ((b : Nat) : Int), ((c : Nat) : Int)])
    (h4 : ∀ a, a < 6 → ∀ b, b < 6 → ∀ c, c < 6 → ∀ d, d < 6 → p [((a : Nat) : Int), ((b : Nat) : Int), ((c : Nat) : Int), ((d : Nat) : Int)])
    {x : List Int} (hl : x.length ≤ 4) (hv : ∀ v ∈ x, (0 : Int) ≤ v ∧ v ≤ 5) : p x := by
  have key : ∀ v ∈ x, ∃ n : Nat, n < 6 ∧ v = (n : Int) := fun v hm => by
    obtain ⟨a, b⟩ := hv v hm
    obtain ⟨n, rfl⟩ := Int.eq_ofNat_of_zero_le a
    exact ⟨n, by omega, rfl⟩
  match x, hl with
  | [], _ => exact h0
  | [a], _ =>
    obtain ⟨a, ha, rfl⟩ := key a (by simp)
    exact h1 a ha
  | [a, b], _ =>
    obtain ⟨a, ha, rfl⟩ := key a (by simp)
    obtain ⟨b, hb, rfl⟩ := key b (by simp)
    exact h2 a ha b hb
  | [a, b, c], _ =>
    obtain ⟨a, ha, rfl⟩ := key a (by simp)
    obtain ⟨b, hb, rfl⟩ := key b (by simp)
    obtain ⟨c, hc, rfl⟩ := key c (by simp)
    exact h3 a ha b hb c hc
  | [a, b, c, d], _ =>
    obtain ⟨a, ha, rfl⟩ := key a (by simp)
    obtain ⟨b, hb, rfl⟩ := key b (by simp)
    obtain ⟨c, hc, rfl⟩ := key c (by simp)
    obtain ⟨d, hd, rfl⟩ := key d (by simp)
    exact h4 a ha b hb c hc d hd
/-! ### Domains -/
def valsI (d : Int) : List Int := membersTo d 6
def popI (d : Int) : Int := ((valsI d).length : Int)
theorem membersTo_len (b : Int) (k : Nat) : (membersTo b k).length ≤ k := members_len rfl
theorem valsI_mem {d v : Int} (h : v ∈ valsI d) : 0 ≤ v ∧ v ≤ 5 := by
  simp only [valsI, membersTo, natsI, List.mem_map, List.mem_filter, List.mem_range] at h
  obtain ⟨i, ⟨h1, _⟩, rfl⟩ := h
  omega
/-! ### Sums -/
def dotTo (a x : List Int) (k : Nat) : Int := ((List.range k).map (fun i => a.getD i 0 * x.getD i 0)).sum
theorem dot_succ (a x : List Int) (k : Nat) : dotTo a x (k + 1) = dotTo a x k + a.getD k 0 * x.getD k 0 := by
  simp [dotTo, List.range_succ]
def Coef (a : List Int) : Prop := ∀ v ∈ a, (-9 : Int) ≤ v ∧ v ≤ 9
def Vals (x : List Int) : Prop := ∀ v ∈ x, (0 : Int) ≤ v ∧ v ≤ 5
theorem Vals.at {x : List Int} (h : Vals x) {k : Nat} (hk : k < x.length) : (0 : Int) ≤ x.getD k 0 ∧ x.getD k 0 ≤ 5 := h _ (getD_mem hk)
theorem Coef.at {x : List Int} (h : Coef x) {k : Nat} (hk : k < x.length) : (-9 : Int) ≤ x.getD k 0 ∧ x.getD k 0 ≤ 9 := h _ (getD_mem hk)
theorem prod_le {a v : Int} (ha : (-9 : Int) ≤ a ∧ a ≤ 9) (hv : (0 : Int) ≤ v ∧ v ≤ 5) : -45 ≤ a * v ∧ a * v ≤ 45 := by
  obtain ⟨h1, h2⟩ := hv
  have h : v = 0 ∨ v = 1 ∨ v = 2 ∨ v = 3 ∨ v = 4 ∨ v = 5 := by omega
  rcases h with rfl | rfl | rfl | rfl | rfl | rfl <;> omega
theorem dot_le {a x : List Int} (ha : Coef a) (hx : Vals x) : ∀ k : Nat, k ≤ a.length → k ≤ x.length → -(45 * (k : Int)) ≤ dotTo a x k ∧ dotTo a x k ≤ 45 * (k : Int)
  | 0, _, _ => by simp [dotTo]
  | k + 1, h1, h2 => by
    have := dot_le ha hx k (by omega) (by omega)
    have hp := prod_le (ha.at (k := k) (by omega)) (hx.at (k := k) (by omega))
    rw [dot_succ]; omega
/-! ### What constraints say of values -/
def cntTo (x : List Int) (a : Int) (k : Nat) : Int := (((x.take k).filter (fun v => decide (v = a))).length : Int)
theorem cnt_succ {x : List Int} {a : Int} {k : Nat} (h : k < x.length) : cntTo x a (k + 1) = cntTo x a k + (if x.getD k 0 = a then 1 else 0) := by
  simp only [cntTo]
  rw [take_succ_getD 0 h, List.filter_append]
  by_cases e : x.getD k 0 = a
  · rw [if_pos e]
    have e' : decide (x.getD k 0 = a) = true := decide_eq_true e
    simp only [List.filter_cons, e', List.filter_nil, if_true, List.length_append, List.length_cons, List.length_nil]; omega
  · rw [if_neg e]
    have e' : decide (x.getD k 0 = a) = false := decide_eq_false e
    simp only [List.filter_cons, e', List.filter_nil, List.append_nil]; simp
theorem cnt_le (x : List Int) (a : Int) (k : Nat) : 0 ≤ cntTo x a k ∧ cntTo x a k ≤ k := by
  simp only [cntTo]
  refine ⟨by omega, ?_⟩
  have := List.length_filter_le (fun v => decide (v = a)) (x.take k)
  have h2 : (x.take k).length ≤ k := by simp; omega
  omega
abbrev runsB (a x : List Int) (t i : Nat) : Bool := decide (x.getD i 0 ≤ (t : Int)) && decide ((t : Int) < x.getD i 0 + a.getD i 0)
def loadTo (a x : List Int) (t k : Nat) : Int := ((List.range k).map (fun i => if runsB a x t i = true then a.getD (x.length + i) 0 else 0)).sum
theorem load_succ (a x : List Int) (t k : Nat) : loadTo a x t (k + 1) = loadTo a x t k + (if runsB a x t k = true then a.getD (x.length + k) 0 else 0) := by
  simp [loadTo, List.range_succ]
def roomTo (c : Con) (x : List Int) (k : Nat) : Bool := (List.range k).all (fun t => decide (loadTo c.args x t x.length ≤ c.bound))
def roomB (c : Con) (x : List Int) : Bool := roomTo c x 15
theorem load_stepT {a x : List Int} {t k : Nat} {s : Int} (h : s = loadTo a x t k) (c : runsB a x t k = true) : s + a.getD (x.length + k) 0 = loadTo a x t (k + 1) := by rw [load_succ, if_pos c, h]
theorem load_stepF {a x : List Int} {t k : Nat} {s : Int} (h : s = loadTo a x t k) (c : runsB a x t k = false) : s = loadTo a x t (k + 1) := by rw [load_succ, if_neg (by rw [c]; simp), h]; simp
theorem load_le {a x : List Int} (h : ∀ v ∈ a, (0 : Int) ≤ v ∧ v ≤ 9) (hl : 2 * x.length ≤ a.length) (t : Nat) : ∀ k : Nat, k ≤ x.length → 0 ≤ loadTo a x t k ∧ loadTo a x t k ≤ 9 * (k : Int)
  | 0, _ => by simp [loadTo]
  | k + 1, hk => by
    have h1 := load_le h hl t k (by omega)
    have h2 := h _ (getD_mem (d := (0 : Int)) (by omega : x.length + k < a.length))
    rw [load_succ]
    split <;> omega
theorem room_succ (c : Con) (x : List Int) (k : Nat) : roomTo c x (k + 1) = (roomTo c x k && decide (loadTo c.args x k x.length ≤ c.bound)) := by
  simp [roomTo, List.range_succ]
theorem room_no {c : Con} {x : List Int} {k : Nat} (hk : k < 15) (h : ¬ loadTo c.args x k x.length ≤ c.bound) : roomB c x = false := by
  cases hr : roomB c x with
  | false => rfl
  | true =>
    simp only [roomB, roomTo, List.all_eq_true, List.mem_range, decide_eq_true_eq] at hr
    exact absurd (hr k hk) h
theorem room_no' {c : Con} {x : List Int} {k i : Nat} {s : Int} (hk : k < 15) (e : s = loadTo c.args x k i) (hi : i = x.length) (h : c.bound < s) : false = roomB c x := by
  subst hi e; exact (room_no hk (by omega)).symm
theorem room_step {c : Con} {x : List Int} {k i : Nat} {s : Int} (h0 : roomTo c x k = true) (e : s = loadTo c.args x k i) (hi : i = x.length) (h : ¬ c.bound < s) : roomTo c x (k + 1) = true := by
  subst hi e; rw [room_succ, h0, decide_eq_true (by omega)]; rfl
theorem room_yes {c : Con} {x : List Int} {k : Nat} (h0 : roomTo c x k = true) (hk : k = 15) : true = roomB c x := by subst hk; exact h0.symm
abbrev stepA (rows : List (List Int)) (s v : Int) : Int := (rows.getD s.toNat []).getD v.toNat 0
def accGo (rows : List (List Int)) : Int → List Int → Int
  | s, [] => s
  | s, v :: vs => if stepA rows s v < 0 then -1 else accGo rows (stepA rows s v) vs
def accB (c : Con) (x : List Int) : Bool := decide (0 ≤ accGo c.rows 0 x) && c.args.contains (accGo c.rows 0 x)
theorem acc_at {rows : List (List Int)} {s : Int} {x : List Int} {k : Nat} (h : k < x.length) :
    accGo rows s (x.drop k) = if stepA rows s (x.getD k 0) < 0 then -1 else accGo rows (stepA rows s (x.getD k 0)) (x.drop (k + 1)) := by
  rw [List.drop_eq_getElem_cons h]
  have : x.getD k 0 = x[k] := by simp [List.getD, h]
  rw [this]; rfl
def RowsOk (rows : List (List Int)) : Prop := ∀ r ∈ rows, r.length = 6 ∧ ∀ v ∈ r, (-1 : Int) ≤ v ∧ v < rows.length
theorem acc_no {c : Con} {x : List Int} {k : Nat} {s : Int} (hk : k < x.length) (h : accGo c.rows s (x.drop k) = accGo c.rows 0 x) (hn : stepA c.rows s (x.getD k 0) < 0) : false = accB c x := by
  have e : accGo c.rows 0 x = -1 := by rw [← h, acc_at hk, if_pos hn]
  unfold accB; rw [e]; rfl
theorem acc_step {rows : List (List Int)} {x : List Int} {k : Nat} {s : Int} (hr : RowsOk rows) (hk : k < x.length) (hs : 0 ≤ s ∧ s < rows.length) (hv : (0 : Int) ≤ x.getD k 0 ∧ x.getD k 0 ≤ 5)
    (h : accGo rows s (x.drop k) = accGo rows 0 x) (hn : ¬ stepA rows s (x.getD k 0) < 0) :
    0 ≤ stepA rows s (x.getD k 0) ∧ stepA rows s (x.getD k 0) < rows.length ∧ accGo rows (stepA rows s (x.getD k 0)) (x.drop (k + 1)) = accGo rows 0 x := by
  have h1 := hr _ (getD_mem (d := ([] : List Int)) (by omega : s.toNat < rows.length))
  have h2 := h1.2 _ (getD_mem (d := (0 : Int)) (by omega : (x.getD k 0).toNat < (rows.getD s.toNat []).length))
  refine ⟨by omega, h2.2, ?_⟩
  rw [← h, acc_at hk, if_neg hn]
theorem acc_yes {c : Con} {x : List Int} {k : Nat} {s : Int} (hk : k = x.length) (hs : 0 ≤ s) (h : accGo c.rows s (x.drop k) = accGo c.rows 0 x) : c.args.contains s = accB c x := by
  subst hk
  rw [List.drop_length] at h
  have e : accGo c.rows 0 x = s := by rw [← h]; rfl
  unfold accB; rw [e, decide_eq_true hs]; rfl
def cycIGo (x : List Int) : Nat → Int → Int → Bool
  | 0, a, s => decide (a = 0) && decide (s = x.length)
  | f + 1, a, s => if decide (a ≠ 0) && decide (s ≤ x.length) then cycIGo x f (x.getD a.toNat 0) (s + 1) else decide (a = 0) && decide (s = x.length)
def cycI (x : List Int) : Bool := if x.any (fun v => decide ((x.length : Int) ≤ v)) = true then false else cycIGo x x.length (x.getD 0 0) 1
def cycSGo (x : List Int) : Nat → Int → Int → Bool
  | 0, _, _ => false
  | f + 1, a, n => if (x.length : Int) ≤ x.getD a.toNat 0 then false else if x.getD a.toNat 0 = 0 then decide (n = x.length) else cycSGo x f (x.getD a.toNat 0) (n + 1)
def cycB (x : List Int) : Bool := cycSGo x x.length 0 1
theorem cyc_eq {x : List Int} (hl : x.length ≤ 4) (hv : Vals x) (h1 : 1 ≤ x.length) : cycI x = cycB x := by
  revert h1
  refine fin_list (p := fun x => 1 ≤ x.length → cycI x = cycB x) ?_ ?_ ?_ ?_ ?_ hl hv
  · intro h; simp at h
  · have : ∀ a, a < 6 → cycI [((a : Nat) : Int)] = cycB [((a : Nat) : Int)] := by decide +kernel
    exact fun a ha _ => this a ha
  · have : ∀ a, a < 6 → ∀ b, b < 6 → cycI [((a : Nat) : Int), ((b : Nat) : Int)] = cycB [((a : Nat) : Int), ((b : Nat) : Int)] := by decide +kernel
    exact fun a ha b hb _ => this a ha b hb
  · have : ∀ a, a < 6 → ∀ b, b < 6 → ∀ c, c < 6 → cycI [((a : Nat) : Int), ((b : Nat) : Int), ((c : Nat) : Int)] = cycB [((a : Nat) : Int), ((b : Nat) : Int), ((c : Nat) : Int)] := by decide +kernel
    exact fun a ha b hb c hc _ => this a ha b hb c hc
  · have : ∀ a, a < 6 → ∀ b, b < 6 → ∀ c, c < 6 → ∀ d, d < 6 → cycI [((a : Nat) : Int), ((b : Nat) : Int), ((c : Nat) : Int), ((d : Nat) : Int)] = cycB [((a : Nat) : Int), ((b : Nat) : Int), ((c : Nat) : Int), ((d : Nat) : Int)] := by decide +kernel
    exact fun a ha b hb c hc d hd _ => this a ha b hb c hc d hd
theorem cyc_bad {x : List Int} (h : (x.any (fun v => decide ((x.length : Int) ≤ v))) = true) : false = cycI x := by unfold cycI; rw [if_pos h]
theorem cyc_in {x : List Int} (h : (x.any (fun v => decide ((x.length : Int) ≤ v))) = false) : ∀ v ∈ x, v < x.length := fun v hv => by
  simp only [List.any_eq_false, decide_eq_true_eq] at h
  have := h v hv; omega
theorem cyc_step {x : List Int} {f : Nat} {a s : Int} {R : Bool} (h : cycIGo x f a s = R) (hf : 0 < f) (c : (decide (a ≠ 0) && decide (s ≤ (x.length : Int))) = true) : cycIGo x (f - 1) (x.getD a.toNat 0) (s + 1) = R := by
  obtain ⟨g, rfl⟩ : ∃ g, f = g + 1 := ⟨f - 1, by omega⟩
  rw [← h, cycIGo, if_pos c]; rfl
theorem cyc_end {x : List Int} {f : Nat} {a s : Int} (hin : (x.any (fun v => decide ((x.length : Int) ≤ v))) = false) (h : cycIGo x f a s = cycIGo x x.length (x.getD 0 0) 1) (c : (decide (a ≠ 0) && decide (s ≤ (x.length : Int))) = false) :
    (decide (a = 0) && decide (s = (x.length : Int))) = cycI x := by
  unfold cycI; rw [hin, ← h]
  cases f with
  | zero => rfl
  | succ f => rw [cycIGo, c]; rfl
theorem cycS_at {x : List Int} {k : Nat} {a : Int} {R : Bool} (h : cycSGo x (x.length + 1 - k) a (k : Int) = R) (hk : k ≤ x.length) :
    R = if (x.length : Int) ≤ x.getD a.toNat 0 then false else if x.getD a.toNat 0 = 0 then decide ((k : Int) = x.length) else cycSGo x (x.length + 1 - (k + 1)) (x.getD a.toNat 0) (((k + 1 : Nat)) : Int) := by
  rw [← h, show x.length + 1 - k = (x.length + 1 - (k + 1)) + 1 from by omega, cycSGo]
  simp
theorem cycS_0 {x : List Int} {k : Nat} {a : Int} {R : Bool} (h : cycSGo x (x.length + 1 - k) a (k : Int) = R) (hk : ¬ (k : Int) ≤ x.length) : false = R := by
  rw [← h, show x.length + 1 - k = 0 from by omega]; rfl
/-- A constraint at the values of its variables. -/
def satB (c : Con) (x : List Int) : Bool :=
  if c.kind = 1 then decide (dotTo c.args x x.length ≤ c.bound)
  else if c.kind = 2 then decide (x.getD 0 0 ≠ x.getD 1 0 + c.args.getD 0 0)
  else if c.kind = 3 then distinctB x
  else if c.kind = 4 then decide (x.getD 0 0 < c.args.length) && decide (c.args.getD (x.getD 0 0).toNat 0 = x.getD 1 0)
  else if c.kind = 5 then c.rows.any (fun r => decide (r = x))
  else if c.kind = 6 then decide (cntTo x (c.args.getD 0 0) x.length = c.bound)
  else if c.kind = 7 then roomB c x
  else if c.kind = 8 then accB c x
  else cycB x
section kinds
variable {c : Con} {x : List Int}
theorem sat_1 (e : c.kind = 1) : satB c x = decide (dotTo c.args x x.length ≤ c.bound) := by simp [satB, e]
theorem sat_2 (e : c.kind = 2) : satB c x = decide (x.getD 0 0 ≠ x.getD 1 0 + c.args.getD 0 0) := by simp [satB, e]
theorem sat_3 (e : c.kind = 3) : satB c x = distinctB x := by simp [satB, e]
theorem sat_4 (e : c.kind = 4) : satB c x = (decide (x.getD 0 0 < (c.args.length : Int)) && decide (c.args.getD (x.getD 0 0).toNat 0 = x.getD 1 0)) := by simp [satB, e]
theorem sat_5 (e : c.kind = 5) : satB c x = c.rows.any (fun r => decide (r = x)) := by simp [satB, e]
theorem sat_6 (e : c.kind = 6) : satB c x = decide (cntTo x (c.args.getD 0 0) x.length = c.bound) := by simp [satB, e]
theorem sat_7 (e : c.kind = 7) : satB c x = roomB c x := by simp [satB, e]
theorem sat_8 (e : c.kind = 8) : satB c x = accB c x := by simp [satB, e]
theorem sat_9 (h1 : ¬ c.kind = 1) (h2 : ¬ c.kind = 2) (h3 : ¬ c.kind = 3) (h4 : ¬ c.kind = 4) (h5 : ¬ c.kind = 5) (h6 : ¬ c.kind = 6) (h7 : ¬ c.kind = 7) (h8 : ¬ c.kind = 8) : satB c x = cycB x := by simp [satB, *]
end kinds
theorem cnt_stepT {x : List Int} {a s : Int} {k : Nat} (h : s = cntTo x a k) (hk : k < x.length) (c : x.getD k 0 = a) : s + 1 = cntTo x a (k + 1) := by rw [cnt_succ hk, if_pos c, h]
theorem cnt_stepF {x : List Int} {a s : Int} {k : Nat} (h : s = cntTo x a k) (hk : k < x.length) (c : ¬ x.getD k 0 = a) : s = cntTo x a (k + 1) := by rw [cnt_succ hk, if_neg c, h]; simp
theorem popI_le (d : Int) : 0 ≤ popI d ∧ popI d ≤ 6 := by have := membersTo_len d 6; simp only [popI, valsI]; omega
structure SatOk (c : Con) (x : List Int) : Prop where
  fit : fitsB c = true
  len : c.vars.length = x.length
  one : 1 ≤ x.length
  four : x.length ≤ 4
  val : Vals x
theorem SatOk.k1 {c : Con} {x : List Int} (h : SatOk c x) (e : c.kind = 1) : c.args.length = x.length ∧ Coef c.args := by
  have h1 := h.fit; have h2 := h.len
  simp [fitsB, e, allInB_iff] at h1
  exact ⟨by omega, h1.1.1.2⟩
theorem SatOk.k2 {c : Con} {x : List Int} (h : SatOk c x) (e : c.kind = 2) : x.length = 2 ∧ c.args.length = 1 ∧ Coef c.args := by
  have h1 := h.fit; have h2 := h.len
  simp [fitsB, e, allInB_iff] at h1
  exact ⟨by omega, by omega, h1.1.1.2.2⟩
theorem SatOk.k4 {c : Con} {x : List Int} (h : SatOk c x) (e : c.kind = 4) : x.length = 2 := by
  have h1 := h.fit; have h2 := h.len
  simp [fitsB, e] at h1
  omega
theorem SatOk.k5 {c : Con} {x : List Int} (h : SatOk c x) (e : c.kind = 5) : ∀ r ∈ c.rows, r.length = x.length := fun r hr => by
  have h1 := h.fit; have h2 := h.len
  simp [fitsB, e, rowsInB] at h1
  have := (h1.2.2 r hr).1
  omega
theorem SatOk.k6 {c : Con} {x : List Int} (h : SatOk c x) (e : c.kind = 6) : c.args.length = 1 := by
  have h1 := h.fit
  simp [fitsB, e] at h1
  omega
theorem SatOk.k7 {c : Con} {x : List Int} (h : SatOk c x) (e : c.kind = 7) : c.args.length = 2 * x.length ∧ ∀ v ∈ c.args, (0 : Int) ≤ v ∧ v ≤ 9 := by
  have h1 := h.fit; have h2 := h.len
  simp [fitsB, e, allInB_iff] at h1
  exact ⟨by omega, h1.1.1.2⟩
theorem SatOk.k8r {c : Con} {x : List Int} (h : SatOk c x) (e : c.kind = 8) : RowsOk c.rows := by
  have h1 := h.fit
  simp [fitsB, e, rowsInB, allInB_iff, withinB] at h1
  refine fun r hr => ?_
  obtain ⟨h3, h4⟩ := h1.1.1.1.2 r hr
  exact ⟨by omega, fun v hv => by have := h4 v hv; omega⟩
theorem SatOk.k8 {c : Con} {x : List Int} (h : SatOk c x) (e : c.kind = 8) : 1 ≤ c.rows.length ∧ ∀ r ∈ c.rows, r.length = 6 ∧ ∀ v ∈ r, (-1 : Int) ≤ v ∧ v < c.rows.length := by
  have h1 := h.fit
  simp [fitsB, e, rowsInB, allInB_iff, withinB] at h1
  refine ⟨by omega, fun r hr => ?_⟩
  obtain ⟨h3, h4⟩ := h1.1.1.1.2 r hr
  exact ⟨by omega, fun v hv => by have := h4 v hv; omega⟩
/-! ### Words -/
def wordTo (vs x : List Int) (k : Nat) : List Int := (vs.take k).map (fun v => x.getD v.toNat 0)
def wordL (vs x : List Int) : List Int := vs.map (fun v => x.getD v.toNat 0)
theorem word_step {vs x : List Int} {k : Nat} {out : List Int} (e : out = wordTo vs x k) (h : k < vs.length) : out ++ [x.getD (vs.getD k 0).toNat 0] = wordTo vs x (k + 1) := by
  subst e; simp only [wordTo]; rw [take_succ_getD 0 h, List.map_append]; rfl
theorem word_len {vs x : List Int} {k : Nat} {out : List Int} (e : out = wordTo vs x k) : out.length ≤ k := by subst e; simp [wordTo]; omega
theorem word_end {vs x : List Int} {k : Nat} {out : List Int} (e : out = wordTo vs x k) (h : vs.length ≤ k) : out = wordL vs x := by
  subst e; simp only [wordTo, wordL]; rw [List.take_of_length_le h]
/-! ### Models at values -/
def conAt (x : List Int) (c : Con) : Bool := satB c (wordL c.vars x)
def metB (m : Mod) (x : List Int) : Bool := m.cons.all (conAt x)
structure MOk (m : Mod) : Prop where
  v : validModB m = true
theorem MOk.n {m : Mod} (h : MOk m) : 1 ≤ m.doms.length ∧ m.doms.length ≤ 4 := valid_n h.v
theorem MOk.i {m : Mod} (h : MOk m) : InN m.cons m.doms.length := valid_in h.v
theorem MOk.d {m : Mod} (h : MOk m) {k : Nat} (hk : k < m.doms.length) : (0 : Int) ≤ m.doms.getD k 0 ∧ m.doms.getD k 0 ≤ 63 := by
  have := h.v
  simp only [validModB, domainsOkB, Bool.and_eq_true, allInB_iff] at this
  exact this.1.1.2 _ (getD_mem hk)
theorem MOk.c {m : Mod} (h : MOk m) {k : Nat} (hk : k < m.cons.length) : validConB (m.cons.getD k nilCon) m.doms.length = true := by
  have := h.v
  simp only [validModB, Bool.and_eq_true, List.all_eq_true] at this
  exact this.2 _ (getD_mem hk)
theorem MOk.cm {m : Mod} (h : MOk m) {c : Con} (hc : c ∈ m.cons) : validConB c m.doms.length = true := by
  have := h.v
  simp only [validModB, Bool.and_eq_true, List.all_eq_true] at this
  exact this.2 _ hc
theorem MOk.few {m : Mod} (h : MOk m) : m.cons.length ≤ 6 := by
  have := h.v
  simp only [validModB, Bool.and_eq_true, decide_eq_true_eq] at this
  omega
structure ConOk (c : Con) (n : Nat) : Prop where
  v : validConB c n = true
theorem ConOk.vars {c : Con} {n : Nat} (h : ConOk c n) : ∀ v ∈ c.vars, (0 : Int) ≤ v ∧ v < n := fun v hv => by
  have := h.v
  simp only [validConB, Bool.and_eq_true, allInB_iff] at this
  have := this.1.1.2 v hv
  omega
theorem ConOk.one {c : Con} {n : Nat} (h : ConOk c n) : 1 ≤ c.vars.length ∧ c.vars.length ≤ n ∧ n ≤ 4 := by
  have := h.v
  simp only [validConB, Bool.and_eq_true, withinB_iff] at this
  omega
theorem ConOk.at {c : Con} {n k : Nat} (h : ConOk c n) (hk : k < c.vars.length) : (0 : Int) ≤ c.vars.getD k 0 ∧ c.vars.getD k 0 < n := h.vars _ (getD_mem hk)
/-! ### Quantified formulas -/
theorem Vals.snoc {x : List Int} {v : Int} (h : Vals x) (hv : 0 ≤ v ∧ v ≤ 5) : Vals (x ++ [v]) := fun u hu => by
  rcases List.mem_append.1 hu with h' | h'
  · exact h u h'
  · rw [List.mem_singleton.1 h']; exact hv
theorem vals_nil : Vals [] := fun _ h => by cases h
/-! Winning values. -/
theorem shl_le {v : Int} (h : 0 ≤ v ∧ v ≤ 5) : 1 ≤ ishl 1 v ∧ ishl 1 v ≤ 32 := by
  have : ∀ i, i < 6 → 1 ≤ ishl 1 ((i : Nat) : Int) ∧ ishl 1 ((i : Nat) : Int) ≤ 32 := by decide +kernel
  exact fin_nat (n := 6) (p := fun v => 1 ≤ ishl 1 v ∧ ishl 1 v ≤ 32) this h.1 (by omega)
/-! The game. -/
def objOkB (m : Mod) (obj : List Int) : Bool := (validModB m && decide ((obj.length : Int) = (m.doms.length : Int))) && allInB obj (-9) 9
def objOkS (m : Mod) (obj : List Int) : Bool := decide ((obj.length : Int) = (m.doms.length : Int)) && allInB obj (-9) 9
theorem objok {m : Mod} {obj : List Int} (h : objOkB m obj = true) : MOk m ∧ obj.length = m.doms.length ∧ Coef obj := by
  simp only [objOkB, Bool.and_eq_true, decide_eq_true_eq, allInB_iff] at h
  exact ⟨⟨h.1.1⟩, by omega, h.2⟩
theorem obj_eq (m : Mod) (obj : List Int) : objOkB m obj = (validModB m && objOkS m obj) := by simp only [objOkB, objOkS, Bool.and_assoc]
theorem row_step {r x : List Int} {j : Nat} {b : Bool} (hj : j < x.length) (hl : r.length = x.length) (h : b = decide (r.take j = x.take j)) : (b && decide (r.getD j 0 = x.getD j 0)) = decide (r.take (j + 1) = x.take (j + 1)) := by
  subst h
  rw [take_succ_getD 0 hj, take_succ_getD 0 (by omega : j < r.length), Bool.eq_iff_iff]
  simp only [Bool.and_eq_true, decide_eq_true_eq]
  constructor
  · rintro ⟨h1, h2⟩; rw [h1, h2]
  · intro h
    have := List.append_inj h (by simp; omega)
    exact ⟨this.1, by simpa using this.2⟩
theorem row_neq {r x : List Int} {j : Nat} {b : Bool} (hj : j = x.length) (hl : r.length = x.length) (h : b = decide (r.take j = x.take j)) (c : b = false) : decide (r = x) = false := by
  subst hj c
  rw [List.take_length, ← hl, List.take_length] at h
  exact h.symm
theorem row_eq {r x : List Int} {j : Nat} {b : Bool} (hj : j = x.length) (hl : r.length = x.length) (h : b = decide (r.take j = x.take j)) (c : b = true) : decide (r = x) = true := by
  subst hj c
  rw [List.take_length, ← hl, List.take_length] at h
  exact h.symm
/-! Violated constraints. -/
/-! Minimax, case by case. -/
section mm
variable {m : Mod} {obj : List Int} {fa : List Bool}
end mm
end Go.Proofs.YtojinjdobjodaaaGreat
