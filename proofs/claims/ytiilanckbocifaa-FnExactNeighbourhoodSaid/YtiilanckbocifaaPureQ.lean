/- Constraints at values, and quantified formulas: the plain functions. No program in sight. Conditions: none. -/
import Derived.Test.YtiilanckbocifaaPure
namespace Go.Proofs.Ytiilanckbocifaa
open Go
set_option linter.unusedSimpArgs false
set_option linter.unusedVariables false
/-! ### Small cases, asked one by one -/
theorem fin_nat {n : Nat} {p : Int → Prop} (h : ∀ i, i < n → p ((i : Nat) : Int)) {x : Int} (h0 : 0 ≤ x) (h1 : x < n) : p x := by
  obtain ⟨i, rfl⟩ := Int.eq_ofNat_of_zero_le h0
  exact h i (by omega)
/-- Lists of at most four values. -/
theorem fin_list {p : List Int → Prop} (h0 : p []) (h1 : ∀ a, a < 6 → p [((a : Nat) : Int)]) (h2 : ∀ a, a < 6 → ∀ b, b < 6 → p [((a : Nat) : Int), ((b : Nat) : Int)])
    (h3 : ∀ a, a < 6 → ∀ b, b < 6 → ∀ c, c < 6 → p [((a : Nat) : Int), ((b : Nat) : Int), ((c : Nat) : Int)])
    (h4 : ∀ a, a < 6 → ∀ b, b < 6 → ∀ c, c < 6 → ∀ d, d < 6 → p [((a : Nat) : Int), ((b : Nat) : Int), ((c : Nat) : Int), ((d : Nat) : Int)])
    {x : List Int} (hl : x.length ≤ 4) (hv : ∀ v ∈ x, (0 : Int) ≤ v ∧ v ≤ 5) : p x := by
  have key : ∀ v ∈ x, ∃ n : Nat, n < 6 ∧ v = (n : Int) := fun v hm => by
    obtain ⟨a, b⟩ := hv v hm
    obtain ⟨n, rfl⟩ := Int.eq_ofNat_of_zero_le a
    exact ⟨n, by omega, rfl⟩
  match x, hl with
  | [], _ => exact h0
  | [a], _ =>
    obtain ⟨a, ha, rfl⟩ := key a (by simp)
    exact h1 a ha
  | [a, b], _ =>
    obtain ⟨a, ha, rfl⟩ := key a (by simp)
    obtain ⟨b, hb, rfl⟩ := key b (by simp)
    exact h2 a ha b hb
  | [a, b, c], _ =>
    obtain ⟨a, ha, rfl⟩ := key a (by simp)
    obtain ⟨b, hb, rfl⟩ := key b (by simp)
    obtain ⟨c, hc, rfl⟩ := key c (by simp)
    exact h3 a ha b hb c hc
  | [a, b, c, d], _ =>
    obtain ⟨a, ha, rfl⟩ := key a (by simp)
    obtain ⟨b, hb, rfl⟩ := key b (by simp)
    obtain ⟨c, hc, rfl⟩ := key c (by simp)
    obtain ⟨d, hd, rfl⟩ := key d (by simp)
    exact h4 a ha b hb c hc d hd
/-! ### Domains -/
def valsI (d : Int) : List Int := membersTo d 6
def popI (d : Int) : Int := ((valsI d).length : Int)
theorem membersTo_len (b : Int) (k : Nat) : (membersTo b k).length ≤ k := members_len rfl
theorem valsI_mem {d v : Int} (h : v ∈ valsI d) : 0 ≤ v ∧ v ≤ 5 := by
  simp only [valsI, membersTo, natsI, List.mem_map, List.mem_filter, List.mem_range] at h
  obtain ⟨i, ⟨h1, _⟩, rfl⟩ := h
  omega
/-! ### Sums -/
def dotTo (a x : List Int) (k : Nat) : Int := ((List.range k).map (fun i => a.getD i 0 * x.getD i 0)).sum
theorem dot_succ (a x : List Int) (k : Nat) : dotTo a x (k + 1) = dotTo a x k + a.getD k 0 * x.getD k 0 := by
  simp [dotTo, List.range_succ]
def Coef (a : List Int) : Prop := ∀ v ∈ a, (-9 : Int) ≤ v ∧ v ≤ 9
def Vals (x : List Int) : Prop := ∀ v ∈ x, (0 : Int) ≤ v ∧ v ≤ 5
theorem Vals.at {x : List Int} (h : Vals x) {k : Nat} (hk : k < x.length) : (0 : Int) ≤ x.getD k 0 ∧ x.getD k 0 ≤ 5 := h _ (getD_mem hk)
theorem Coef.at {x : List Int} (h : Coef x) {k : Nat} (hk : k < x.length) : (-9 : Int) ≤ x.getD k 0 ∧ x.getD k 0 ≤ 9 := h _ (getD_mem hk)
theorem prod_le {a v : Int} (ha : (-9 : Int) ≤ a ∧ a ≤ 9) (hv : (0 : Int) ≤ v ∧ v ≤ 5) : -45 ≤ a * v ∧ a * v ≤ 45 := by
  obtain ⟨h1, h2⟩ := hv
  have h : v = 0 ∨ v = 1 ∨ v = 2 ∨ v = 3 ∨ v = 4 ∨ v = 5 := by omega
  rcases h with rfl | rfl | rfl | rfl | rfl | rfl <;> omega
theorem dot_le {a x : List Int} (ha : Coef a) (hx : Vals x) : ∀ k : Nat, k ≤ a.length → k ≤ x.length → -(45 * (k : Int)) ≤ dotTo a x k ∧ dotTo a x k ≤ 45 * (k : Int)
  | 0, _, _ => by simp [dotTo]
  | k + 1, h1, h2 => by
    have := dot_le ha hx k (by omega) (by omega)
    have hp := prod_le (ha.at (k := k) (by omega)) (hx.at (k := k) (by omega))
    rw [dot_succ]; omega
/-! ### What constraints say of values -/
def cntTo (x : List Int) (a : Int) (k : Nat) : Int := (((x.take k).filter (fun v => decide (v = a))).length : Int)
theorem cnt_succ {x : List Int} {a : Int} {k : Nat} (h : k < x.length) : cntTo x a (k + 1) = cntTo x a k + (if x.getD k 0 = a then 1 else 0) := by
  simp only [cntTo]
  rw [take_succ_getD 0 h, List.filter_append]
  by_cases e : x.getD k 0 = a
  · rw [if_pos e]
    have e' : decide (x.getD k 0 = a) = true := decide_eq_true e
    simp only [List.filter_cons, e', List.filter_nil, if_true, List.length_append, List.length_cons, List.length_nil]; omega
  · rw [if_neg e]
    have e' : decide (x.getD k 0 = a) = false := decide_eq_false e
    simp only [List.filter_cons, e', List.filter_nil, List.append_nil]; simp
theorem cnt_le (x : List Int) (a : Int) (k : Nat) : 0 ≤ cntTo x a k ∧ cntTo x a k ≤ k := by
  simp only [cntTo]
  refine ⟨by omega, ?_⟩
  have := List.length_filter_le (fun v => decide (v = a)) (x.take k)
  have h2 : (x.take k).length ≤ k := by simp; omega
  omega
abbrev runsB (a x : List Int) (t i : Nat) : Bool := decide (x.getD i 0 ≤ (t : Int)) && decide ((t : Int) < x.getD i 0 + a.getD i 0)
def loadTo (a x : List Int) (t k : Nat) : Int := ((List.range k).map (fun i => if runsB a x t i = true then a.getD (x.length + i) 0 else 0)).sum
theorem load_succ (a x : List Int) (t k : Nat) : loadTo a x t (k + 1) = loadTo a x t k + (if runsB a x t k = true then a.getD (x.length + k) 0 else 0) := by
  simp [loadTo, List.range_succ]
def roomTo (c : Con) (x : List Int) (k : Nat) : Bool := (List.range k).all (fun t => decide (loadTo c.args x t x.length ≤ c.bound))
def roomB (c : Con) (x : List Int) : Bool := roomTo c x 15
theorem load_stepT {a x : List Int} {t k : Nat} {s : Int} (h : s = loadTo a x t k) (c : runsB a x t k = true) : s + a.getD (x.length + k) 0 = loadTo a x t (k + 1) := by rw [load_succ, if_pos c, h]
theorem load_stepF {a x : List Int} {t k : Nat} {s : Int} (h : s = loadTo a x t k) (c : runsB a x t k = false) : s = loadTo a x t (k + 1) := by rw [load_succ, if_neg (by rw [c]; simp), h]; simp
theorem load_le {a x : List Int} (h : ∀ v ∈ a, (0 : Int) ≤ v ∧ v ≤ 9) (hl : 2 * x.length ≤ a.length) (t : Nat) : ∀ k : Nat, k ≤ x.length → 0 ≤ loadTo a x t k ∧ loadTo a x t k ≤ 9 * (k : Int)
  | 0, _ => by simp [loadTo]
  | k + 1, hk => by
    have h1 := load_le h hl t k (by omega)
    have h2 := h _ (getD_mem (d := (0 : Int)) (by omega : x.length + k < a.length))
    rw [load_succ]
    split <;> omega
theorem room_succ (c : Con) (x : List Int) (k : Nat) : roomTo c x (k + 1) = (roomTo c x k && decide (loadTo c.args x k x.length ≤ c.bound)) := by
  simp [roomTo, List.range_succ]
theorem room_no {c : Con} {x : List Int} {k : Nat} (hk : k < 15) (h : ¬ loadTo c.args x k x.length ≤ c.bound) : roomB c x = false := by
  cases hr : roomB c x with
  | false => rfl
  | true =>
    simp only [roomB, roomTo, List.all_eq_true, List.mem_range, decide_eq_true_eq] at hr
    exact absurd (hr k hk) h
theorem room_no' {c : Con} {x : List Int} {k i : Nat} {s : Int} (hk : k < 15) (e : s = loadTo c.args x k i) (hi : i = x.length) (h : c.bound < s) : false = roomB c x := by
  subst hi e; exact (room_no hk (by omega)).symm
theorem room_step {c : Con} {x : List Int} {k i : Nat} {s : Int} (h0 : roomTo c x k = true) (e : s = loadTo c.args x k i) (hi : i = x.length) (h : ¬ c.bound < s) : roomTo c x (k + 1) = true := by
  subst hi e; rw [room_succ, h0, decide_eq_true (by omega)]; rfl
theorem room_yes {c : Con} {x : List Int} {k : Nat} (h0 : roomTo c x k = true) (hk : k = 15) : true = roomB c x := by subst hk; exact h0.symm
abbrev stepA (rows : List (List Int)) (s v : Int) : Int := (rows.getD s.toNat []).getD v.toNat 0
def accGo (rows : List (List Int)) : Int → List Int → Int
  | s, [] => s
  | s, v :: vs => if stepA rows s v < 0 then -1 else accGo rows (stepA rows s v) vs
def accB (c : Con) (x : List Int) : Bool := decide (0 ≤ accGo c.rows 0 x) && c.args.contains (accGo c.rows 0 x)
theorem acc_at {rows : List (List Int)} {s : Int} {x : List Int} {k : Nat} (h : k < x.length) :
    accGo rows s (x.drop k) = if stepA rows s (x.getD k 0) < 0 then -1 else accGo rows (stepA rows s (x.getD k 0)) (x.drop (k + 1)) := by
  rw [List.drop_eq_getElem_cons h]
  have : x.getD k 0 = x[k] := by simp [List.getD, h]
  rw [this]; rfl
def RowsOk (rows : List (List Int)) : Prop := ∀ r ∈ rows, r.length = 6 ∧ ∀ v ∈ r, (-1 : Int) ≤ v ∧ v < rows.length
theorem acc_no {c : Con} {x : List Int} {k : Nat} {s : Int} (hk : k < x.length) (h : accGo c.rows s (x.drop k) = accGo c.rows 0 x) (hn : stepA c.rows s (x.getD k 0) < 0) : false = accB c x := by
  have e : accGo c.rows 0 x = -1 := by rw [← h, acc_at hk, if_pos hn]
  unfold accB; rw [e]; rfl
theorem acc_step {rows : List (List Int)} {x : List Int} {k : Nat} {s : Int} (hr : RowsOk rows) (hk : k < x.length) (hs : 0 ≤ s ∧ s < rows.length) (hv : (0 : Int) ≤ x.getD k 0 ∧ x.getD k 0 ≤ 5)
    (h : accGo rows s (x.drop k) = accGo rows 0 x) (hn : ¬ stepA rows s (x.getD k 0) < 0) :
    0 ≤ stepA rows s (x.getD k 0) ∧ stepA rows s (x.getD k 0) < rows.length ∧ accGo rows (stepA rows s (x.getD k 0)) (x.drop (k + 1)) = accGo rows 0 x := by
  have h1 := hr _ (getD_mem (d := ([] : List Int)) (by omega : s.toNat < rows.length))
  have h2 := h1.2 _ (getD_mem (d := (0 : Int)) (by omega : (x.getD k 0).toNat < (rows.getD s.toNat []).length))
  refine ⟨by omega, h2.2, ?_⟩
  rw [← h, acc_at hk, if_neg hn]
theorem acc_yes {c : Con} {x : List Int} {k : Nat} {s : Int} (hk : k = x.length) (hs : 0 ≤ s) (h : accGo c.rows s (x.drop k) = accGo c.rows 0 x) : c.args.contains s = accB c x := by
  subst hk
  rw [List.drop_length] at h
  have e : accGo c.rows 0 x = s := by rw [← h]; rfl
  unfold accB; rw [e, decide_eq_true hs]; rfl
def cycIGo (x : List Int) : Nat → Int → Int → Bool
  | 0, a, s => decide (a = 0) && decide (s = x.length)
  | f + 1, a, s => if decide (a ≠ 0) && decide (s ≤ x.length) then cycIGo x f (x.getD a.toNat 0) (s + 1) else decide (a = 0) && decide (s = x.length)
def cycI (x : List Int) : Bool := if x.any (fun v => decide ((x.length : Int) ≤ v)) = true then false else cycIGo x x.length (x.getD 0 0) 1
def cycSGo (x : List Int) : Nat → Int → Int → Bool
  | 0, _, _ => false
  | f + 1, a, n => if (x.length : Int) ≤ x.getD a.toNat 0 then false else if x.getD a.toNat 0 = 0 then decide (n = x.length) else cycSGo x f (x.getD a.toNat 0) (n + 1)
def cycB (x : List Int) : Bool := cycSGo x x.length 0 1
theorem cyc_eq {x : List Int} (hl : x.length ≤ 4) (hv : Vals x) (h1 : 1 ≤ x.length) : cycI x = cycB x := by
  revert h1
  refine fin_list (p := fun x => 1 ≤ x.length → cycI x = cycB x) ?_ ?_ ?_ ?_ ?_ hl hv
  · intro h; simp at h
  · have : ∀ a, a < 6 → cycI [((a : Nat) : Int)] = cycB [((a : Nat) : Int)] := by decide +kernel
    exact fun a ha _ => this a ha
  · have : ∀ a, a < 6 → ∀ b, b < 6 → cycI [((a : Nat) : Int), ((b : Nat) : Int)] = cycB [((a : Nat) : Int), ((b : Nat) : Int)] := by decide +kernel
    exact fun a ha b hb _ => this a ha b hb
  · have : ∀ a, a < 6 → ∀ b, b < 6 → ∀ c, c < 6 → cycI [((a : Nat) : Int), ((b : Nat) : Int), ((c : Nat) : Int)] = cycB [((a : Nat) : Int), ((b : Nat) : Int), ((c : Nat) : Int)] := by decide +kernel
    exact fun a ha b hb c hc _ => this a ha b hb c hc
  · have : ∀ a, a < 6 → ∀ b, b < 6 → ∀ c, c < 6 → ∀ d, d < 6 → cycI [((a : Nat) : Int), ((b : Nat) : Int), ((c : Nat) : Int), ((d : Nat) : Int)] = cycB [((a : Nat) : Int), ((b : Nat) : Int), ((c : Nat) : Int), ((d : Nat) : Int)] := by decide +kernel
    exact fun a ha b hb c hc d hd _ => this a ha b hb c hc d hd
theorem cyc_bad {x : List Int} (h : (x.any (fun v => decide ((x.length : Int) ≤ v))) = true) : false = cycI x := by unfold cycI; rw [if_pos h]
theorem cyc_in {x : List Int} (h : (x.any (fun v => decide ((x.length : Int) ≤ v))) = false) : ∀ v ∈ x, v < x.length := fun v hv => by
  simp only [List.any_eq_false, decide_eq_true_eq] at h
  have := h v hv; omega
theorem cyc_step {x : List Int} {f : Nat} {a s : Int} {R : Bool} (h : cycIGo x f a s = R) (hf : 0 < f) (c : (decide (a ≠ 0) && decide (s ≤ (x.length : Int))) = true) : cycIGo x (f - 1) (x.getD a.toNat 0) (s + 1) = R := by
  obtain ⟨g, rfl⟩ : ∃ g, f = g + 1 := ⟨f - 1, by omega⟩
  rw [← h, cycIGo, if_pos c]; rfl
theorem cyc_end {x : List Int} {f : Nat} {a s : Int} (hin : (x.any (fun v => decide ((x.length : Int) ≤ v))) = false) (h : cycIGo x f a s = cycIGo x x.length (x.getD 0 0) 1) (c : (decide (a ≠ 0) && decide (s ≤ (x.length : Int))) = false) :
    (decide (a = 0) && decide (s = (x.length : Int))) = cycI x := by
  unfold cycI; rw [hin, ← h]
  cases f with
  | zero => rfl
  | succ f => rw [cycIGo, c]; rfl
theorem cycS_at {x : List Int} {k : Nat} {a : Int} {R : Bool} (h : cycSGo x (x.length + 1 - k) a (k : Int) = R) (hk : k ≤ x.length) :
    R = if (x.length : Int) ≤ x.getD a.toNat 0 then false else if x.getD a.toNat 0 = 0 then decide ((k : Int) = x.length) else cycSGo x (x.length + 1 - (k + 1)) (x.getD a.toNat 0) (((k + 1 : Nat)) : Int) := by
  rw [← h, show x.length + 1 - k = (x.length + 1 - (k + 1)) + 1 from by omega, cycSGo]
  simp
theorem cycS_0 {x : List Int} {k : Nat} {a : Int} {R : Bool} (h : cycSGo x (x.length + 1 - k) a (k : Int) = R) (hk : ¬ (k : Int) ≤ x.length) : false = R := by
  rw [← h, show x.length + 1 - k = 0 from by omega]; rfl
/-- A constraint at the values of its variables. -/
def satB (c : Con) (x : List Int) : Bool :=
  if c.kind = 1 then decide (dotTo c.args x x.length ≤ c.bound)
  else if c.kind = 2 then decide (x.getD 0 0 ≠ x.getD 1 0 + c.args.getD 0 0)
  else if c.kind = 3 then distinctB x
  else if c.kind = 4 then decide (x.getD 0 0 < c.args.length) && decide (c.args.getD (x.getD 0 0).toNat 0 = x.getD 1 0)
  else if c.kind = 5 then c.rows.any (fun r => decide (r = x))
  else if c.kind = 6 then decide (cntTo x (c.args.getD 0 0) x.length = c.bound)
  else if c.kind = 7 then roomB c x
  else if c.kind = 8 then accB c x
  else cycB x
section kinds
variable {c : Con} {x : List Int}
theorem sat_1 (e : c.kind = 1) : satB c x = decide (dotTo c.args x x.length ≤ c.bound) := by simp [satB, e]
theorem sat_2 (e : c.kind = 2) : satB c x = decide (x.getD 0 0 ≠ x.getD 1 0 + c.args.getD 0 0) := by simp [satB, e]
theorem sat_3 (e : c.kind = 3) : satB c x = distinctB x := by simp [satB, e]
theorem sat_4 (e : c.kind = 4) : satB c x = (decide (x.getD 0 0 < (c.args.length : Int)) && decide (c.args.getD (x.getD 0 0).toNat 0 = x.getD 1 0)) := by simp [satB, e]
theorem sat_5 (e : c.kind = 5) : satB c x = c.rows.any (fun r => decide (r = x)) := by simp [satB, e]
theorem sat_6 (e : c.kind = 6) : satB c x = decide (cntTo x (c.args.getD 0 0) x.length = c.bound) := by simp [satB, e]
theorem sat_7 (e : c.kind = 7) : satB c x = roomB c x := by simp [satB, e]
theorem sat_8 (e : c.kind = 8) : satB c x = accB c x := by simp [satB, e]
theorem sat_9 (h1 : ¬ c.kind = 1) (h2 : ¬ c.kind = 2) (h3 : ¬ c.kind = 3) (h4 : ¬ c.kind = 4) (h5 : ¬ c.kind = 5) (h6 : ¬ c.kind = 6) (h7 : ¬ c.kind = 7) (h8 : ¬ c.kind = 8) : satB c x = cycB x := by simp [satB, *]
end kinds
theorem cnt_stepT {x : List Int} {a s : Int} {k : Nat} (h : s = cntTo x a k) (hk : k < x.length) (c : x.getD k 0 = a) : s + 1 = cntTo x a (k + 1) := by rw [cnt_succ hk, if_pos c, h]
theorem cnt_stepF {x : List Int} {a s : Int} {k : Nat} (h : s = cntTo x a k) (hk : k < x.length) (c : ¬ x.getD k 0 = a) : s = cntTo x a (k + 1) := by rw [cnt_succ hk, if_neg c, h]; simp
theorem popI_le (d : Int) : 0 ≤ popI d ∧ popI d ≤ 6 := by have := membersTo_len d 6; simp only [popI, valsI]; omega
structure SatOk (c : Con) (x : List Int) : Prop where
  fit : fitsB c = true
  len : c.vars.length = x.length
  one : 1 ≤ x.length
  four : x.length ≤ 4
  val : Vals x
theorem SatOk.k1 {c : Con} {x : List Int} (h : SatOk c x) (e : c.kind = 1) : c.args.length = x.length ∧ Coef c.args := by
  have h1 := h.fit; have h2 := h.len
  simp [fitsB, e, allInB_iff] at h1
  exact ⟨by omega, h1.1.1.2⟩
theorem SatOk.k2 {c : Con} {x : List Int} (h : SatOk c x) (e : c.kind = 2) : x.length = 2 ∧ c.args.length = 1 ∧ Coef c.args := by
  have h1 := h.fit; have h2 := h.len
  simp [fitsB, e, allInB_iff] at h1
  exact ⟨by omega, by omega, h1.1.1.2.2⟩
theorem SatOk.k4 {c : Con} {x : List Int} (h : SatOk c x) (e : c.kind = 4) : x.length = 2 := by
  have h1 := h.fit; have h2 := h.len
  simp [fitsB, e] at h1
  omega
theorem SatOk.k5 {c : Con} {x : List Int} (h : SatOk c x) (e : c.kind = 5) : ∀ r ∈ c.rows, r.length = x.length := fun r hr => by
  have h1 := h.fit; have h2 := h.len
  simp [fitsB, e, rowsInB] at h1
  have := (h1.2.2 r hr).1
  omega
theorem SatOk.k6 {c : Con} {x : List Int} (h : SatOk c x) (e : c.kind = 6) : c.args.length = 1 := by
  have h1 := h.fit
  simp [fitsB, e] at h1
  omega
theorem SatOk.k7 {c : Con} {x : List Int} (h : SatOk c x) (e : c.kind = 7) : c.args.length = 2 * x.length ∧ ∀ v ∈ c.args, (0 : Int) ≤ v ∧ v ≤ 9 := by
  have h1 := h.fit; have h2 := h.len
  simp [fitsB, e, allInB_iff] at h1
  exact ⟨by omega, h1.1.1.2⟩
theorem SatOk.k8r {c : Con} {x : List Int} (h : SatOk c x) (e : c.kind = 8) : RowsOk c.rows := by
  have h1 := h.fit
  simp [fitsB, e, rowsInB, allInB_iff, withinB] at h1
  refine fun r hr => ?_
  obtain ⟨h3, h4⟩ := h1.1.1.1.2 r hr
  exact ⟨by omega, fun v hv => by have := h4 v hv; omega⟩
theorem SatOk.k8 {c : Con} {x : List Int} (h : SatOk c x) (e : c.kind = 8) : 1 ≤ c.rows.length ∧ ∀ r ∈ c.rows, r.length = 6 ∧ ∀ v ∈ r, (-1 : Int) ≤ v ∧ v < c.rows.length := by
  have h1 := h.fit
  simp [fitsB, e, rowsInB, allInB_iff, withinB] at h1
  refine ⟨by omega, fun r hr => ?_⟩
  obtain ⟨h3, h4⟩ := h1.1.1.1.2 r hr
  exact ⟨by omega, fun v hv => by have := h4 v hv; omega⟩
/-! ### Words -/
def wordTo (vs x : List Int) (k : Nat) : List Int := (vs.take k).map (fun v => x.getD v.toNat 0)
def wordL (vs x : List Int) : List Int := vs.map (fun v => x.getD v.toNat 0)
theorem word_step {vs x : List Int} {k : Nat} {out : List Int} (e : out = wordTo vs x k) (h : k < vs.length) : out ++ [x.getD (vs.getD k 0).toNat 0] = wordTo vs x (k + 1) := by
  subst e; simp only [wordTo]; rw [take_succ_getD 0 h, List.map_append]; rfl
theorem word_len {vs x : List Int} {k : Nat} {out : List Int} (e : out = wordTo vs x k) : out.length ≤ k := by subst e; simp [wordTo]; omega
theorem word_end {vs x : List Int} {k : Nat} {out : List Int} (e : out = wordTo vs x k) (h : vs.length ≤ k) : out = wordL vs x := by
  subst e; simp only [wordTo, wordL]; rw [List.take_of_length_le h]
/-! ### Models at values -/
def conAt (x : List Int) (c : Con) : Bool := satB c (wordL c.vars x)
def metB (m : Mod) (x : List Int) : Bool := m.cons.all (conAt x)
structure MOk (m : Mod) : Prop where
  v : validModB m = true
theorem MOk.n {m : Mod} (h : MOk m) : 1 ≤ m.doms.length ∧ m.doms.length ≤ 4 := valid_n h.v
theorem MOk.i {m : Mod} (h : MOk m) : InN m.cons m.doms.length := valid_in h.v
theorem MOk.d {m : Mod} (h : MOk m) {k : Nat} (hk : k < m.doms.length) : (0 : Int) ≤ m.doms.getD k 0 ∧ m.doms.getD k 0 ≤ 63 := by
  have := h.v
  simp only [validModB, domainsOkB, Bool.and_eq_true, allInB_iff] at this
  exact this.1.1.2 _ (getD_mem hk)
theorem MOk.c {m : Mod} (h : MOk m) {k : Nat} (hk : k < m.cons.length) : validConB (m.cons.getD k nilCon) m.doms.length = true := by
  have := h.v
  simp only [validModB, Bool.and_eq_true, List.all_eq_true] at this
  exact this.2 _ (getD_mem hk)
theorem MOk.cm {m : Mod} (h : MOk m) {c : Con} (hc : c ∈ m.cons) : validConB c m.doms.length = true := by
  have := h.v
  simp only [validModB, Bool.and_eq_true, List.all_eq_true] at this
  exact this.2 _ hc
theorem MOk.few {m : Mod} (h : MOk m) : m.cons.length ≤ 6 := by
  have := h.v
  simp only [validModB, Bool.and_eq_true, decide_eq_true_eq] at this
  omega
structure ConOk (c : Con) (n : Nat) : Prop where
  v : validConB c n = true
theorem ConOk.vars {c : Con} {n : Nat} (h : ConOk c n) : ∀ v ∈ c.vars, (0 : Int) ≤ v ∧ v < n := fun v hv => by
  have := h.v
  simp only [validConB, Bool.and_eq_true, allInB_iff] at this
  have := this.1.1.2 v hv
  omega
theorem ConOk.one {c : Con} {n : Nat} (h : ConOk c n) : 1 ≤ c.vars.length ∧ c.vars.length ≤ n ∧ n ≤ 4 := by
  have := h.v
  simp only [validConB, Bool.and_eq_true, withinB_iff] at this
  omega
theorem ConOk.at {c : Con} {n k : Nat} (h : ConOk c n) (hk : k < c.vars.length) : (0 : Int) ≤ c.vars.getD k 0 ∧ c.vars.getD k 0 < n := h.vars _ (getD_mem hk)
theorem ConOk.sat {c : Con} {n : Nat} (h : ConOk c n) {x : List Int} (hl : x.length = n) (hx : Vals x) : SatOk c (wordL c.vars x) := by
  have ho := h.one
  have := h.v
  simp only [validConB, Bool.and_eq_true] at this
  refine ⟨this.2, by simp [wordL], by simp [wordL]; omega, by simp [wordL]; omega, fun v hv => ?_⟩
  simp only [wordL, List.mem_map] at hv
  obtain ⟨a, ha, rfl⟩ := hv
  have := h.vars a ha
  exact hx _ (getD_mem (by omega))
/-! ### Quantified formulas -/
def winB (m : Mod) (fa : List Bool) : Nat → List Int → Bool
  | 0, x => metB m x
  | k + 1, x => if fa.getD x.length false = true then (valsI (m.doms.getD x.length 0)).all (fun v => winB m fa k (x ++ [v])) else (valsI (m.doms.getD x.length 0)).any (fun v => winB m fa k (x ++ [v]))
theorem Vals.snoc {x : List Int} {v : Int} (h : Vals x) (hv : 0 ≤ v ∧ v ≤ 5) : Vals (x ++ [v]) := fun u hu => by
  rcases List.mem_append.1 hu with h' | h'
  · exact h u h'
  · rw [List.mem_singleton.1 h']; exact hv
theorem vals_nil : Vals [] := fun _ h => by cases h
def gameGo (fa : Bool) (f : Int → Int × Bool) : List Int → Int → Bool → Int × Bool
  | [], b, s => (b, s)
  | v :: vs, b, s => if fa && !(f v).2 then (0, false) else if (f v).2 && ((!s || (fa && decide (b < (f v).1))) || (!fa && decide ((f v).1 < b))) then gameGo fa f vs (f v).1 true else gameGo fa f vs b s
def gameB (m : Mod) (obj : List Int) (fa : List Bool) : Nat → List Int → Int × Bool
  | 0, x => (dotTo obj x x.length, metB m x)
  | k + 1, x => gameGo (fa.getD x.length false) (fun v => gameB m obj fa k (x ++ [v])) (valsI (m.doms.getD x.length 0)) 0 false
theorem win_T {m : Mod} {fa : List Bool} {k : Nat} {x : List Int} (c : fa.getD x.length false = true) : (!((valsI (m.doms.getD x.length 0)).any (fun v => !(winB m fa k (x ++ [v]))))) = winB m fa (k + 1) x := by
  rw [winB, if_pos c, List.all_eq_not_any_not]
theorem win_F {m : Mod} {fa : List Bool} {k : Nat} {x : List Int} (c : fa.getD x.length false = false) : ((valsI (m.doms.getD x.length 0)).any (fun v => winB m fa k (x ++ [v]))) = winB m fa (k + 1) x := by
  rw [winB, if_neg (by rw [c]; simp)]
theorem winS_no {m : Mod} {fa : List Bool} {k i : Nat} {x : List Int} (hi : i < (valsI (m.doms.getD x.length 0)).length) (c : (winB m fa k (x ++ [(valsI (m.doms.getD x.length 0)).getD i 0]) != fa.getD x.length false) = true) : (!(fa.getD x.length false)) = winB m fa (k + 1) x := by
  have hm := getD_mem (d := (0 : Int)) hi
  rw [winB]
  cases e : fa.getD x.length false with
  | true =>
    rw [e] at c
    rw [if_pos rfl]
    cases ha : (valsI (m.doms.getD x.length 0)).all (fun v => winB m fa k (x ++ [v])) with
    | false => rfl
    | true => have := List.all_eq_true.1 ha _ hm; rw [this] at c; simp at c
  | false =>
    rw [e] at c
    rw [if_neg (by simp)]
    exact (List.any_eq_true.2 ⟨_, hm, by simpa using c⟩).symm
theorem winS_yes {m : Mod} {fa : List Bool} {k i : Nat} {x : List Int} (hi : i = (valsI (m.doms.getD x.length 0)).length) (h : ((valsI (m.doms.getD x.length 0)).take i).all (fun v => winB m fa k (x ++ [v]) == fa.getD x.length false) = true) : fa.getD x.length false = winB m fa (k + 1) x := by
  subst hi
  rw [List.take_length] at h
  have h := List.all_eq_true.1 h
  rw [winB]
  cases e : fa.getD x.length false with
  | true =>
    rw [if_pos rfl]
    exact (List.all_eq_true.2 fun v hv => by have := h v hv; rw [e] at this; simpa using this).symm
  | false =>
    rw [if_neg (by simp)]
    refine (List.any_eq_false.2 fun v hv => ?_).symm
    have := h v hv; rw [e] at this; simpa using this
def fOkB (m : Mod) (fa : List Bool) : Bool := validModB m && decide ((fa.length : Int) = (m.doms.length : Int))
theorem fok {m : Mod} {fa : List Bool} (h : fOkB m fa = true) : MOk m ∧ fa.length = m.doms.length := by
  simp only [fOkB, Bool.and_eq_true, decide_eq_true_eq] at h
  exact ⟨⟨h.1⟩, by omega⟩
def qtrueB (m : Mod) (fa : List Bool) : Bool := fOkB m fa && winB m fa m.doms.length []
/-! Winning values. -/
def wvI (w : Int → Bool) (d v : Int) : Int := if w v = true then ior d (ishl 1 v) else d
def wvS (w : Int → Bool) (d v : Int) : Int := if w v = true then d + ishl 1 v else d
theorem shl_le {v : Int} (h : 0 ≤ v ∧ v ≤ 5) : 1 ≤ ishl 1 v ∧ ishl 1 v ≤ 32 := by
  have : ∀ i, i < 6 → 1 ≤ ishl 1 ((i : Nat) : Int) ∧ ishl 1 ((i : Nat) : Int) ≤ 32 := by decide +kernel
  exact fin_nat (n := 6) (p := fun v => 1 ≤ ishl 1 v ∧ ishl 1 v ≤ 32) this h.1 (by omega)
theorem foldl_congr_mem {A B : Type} {f g : B → A → B} : ∀ (xs : List A) (b : B), (∀ b, ∀ a ∈ xs, f b a = g b a) → xs.foldl f b = xs.foldl g b
  | [], _, _ => rfl
  | x :: xs, b, h => by rw [List.foldl_cons, List.foldl_cons, h b x (.head _), foldl_congr_mem xs _ (fun b a ha => h b a (.tail _ ha))]
/-- Each choice among the six values is a mask. -/
theorem mask_of (w : Int → Bool) : ∃ n, n < 64 ∧ ∀ v : Int, 0 ≤ v ∧ v ≤ 5 → hasB ((n : Nat) : Int) v = w v := by
  have key : ∀ b0 b1 b2 b3 b4 b5 : Bool, ∃ n, n < 64 ∧ (hasB ((n : Nat) : Int) 0 = b0 ∧ hasB ((n : Nat) : Int) 1 = b1 ∧ hasB ((n : Nat) : Int) 2 = b2 ∧ hasB ((n : Nat) : Int) 3 = b3 ∧ hasB ((n : Nat) : Int) 4 = b4 ∧ hasB ((n : Nat) : Int) 5 = b5) := by
    intro b0 b1 b2 b3 b4 b5
    refine ⟨b0.toNat + 2 * b1.toNat + 4 * b2.toNat + 8 * b3.toNat + 16 * b4.toNat + 32 * b5.toNat, ?_⟩
    revert b0 b1 b2 b3 b4 b5
    decide +kernel
  obtain ⟨n, hn, h0, h1, h2, h3, h4, h5⟩ := key (w 0) (w 1) (w 2) (w 3) (w 4) (w 5)
  refine ⟨n, hn, fun v hv => ?_⟩
  have : v = 0 ∨ v = 1 ∨ v = 2 ∨ v = 3 ∨ v = 4 ∨ v = 5 := by omega
  rcases this with rfl | rfl | rfl | rfl | rfl | rfl <;> assumption
theorem wv_eq {d : Int} (hd : 0 ≤ d ∧ d ≤ 63) (w : Int → Bool) : (valsI d).foldl (wvI w) 0 = (valsI d).foldl (wvS w) 0 := by
  obtain ⟨n, hn, hw⟩ := mask_of w
  have e1 : (valsI d).foldl (wvI w) 0 = (valsI d).foldl (wvI (hasB (n : Int))) 0 := foldl_congr_mem _ _ fun b a ha => by simp only [wvI, hw a (valsI_mem ha)]
  have e2 : (valsI d).foldl (wvS w) 0 = (valsI d).foldl (wvS (hasB (n : Int))) 0 := foldl_congr_mem _ _ fun b a ha => by simp only [wvS, hw a (valsI_mem ha)]
  rw [e1, e2]
  have key : ∀ i, i < 64 → ∀ n, n < 64 → (valsI ((i : Nat) : Int)).foldl (wvI (hasB ((n : Nat) : Int))) 0 = (valsI ((i : Nat) : Int)).foldl (wvS (hasB ((n : Nat) : Int))) 0 := by decide +kernel
  exact fin_nat (n := 64) (p := fun d => (valsI d).foldl (wvI (hasB ((n : Nat) : Int))) 0 = (valsI d).foldl (wvS (hasB ((n : Nat) : Int))) 0) (fun i hi => key i hi n hn) hd.1 (by omega)
def wvalI (m : Mod) (fa : List Bool) : Int := if fOkB m fa = true then (valsI (m.doms.getD 0 0)).foldl (wvI (fun v => winB m fa (m.doms.length - 1) [v])) 0 else 0
def wvalS (m : Mod) (fa : List Bool) : Int := if fOkB m fa = true then (valsI (m.doms.getD 0 0)).foldl (wvS (fun v => winB m fa (m.doms.length - 1) [v])) 0 else 0
theorem wval_eq (m : Mod) (fa : List Bool) : wvalI m fa = wvalS m fa := by
  unfold wvalI wvalS
  split
  · rename_i h
    have hs := fok h
    exact wv_eq (hs.1.d (by have := hs.1.n; omega)) _
  · rfl
theorem wvS_le {w : Int → Bool} {xs : List Int} (h : Vals xs) : ∀ k : Nat, k ≤ xs.length → 0 ≤ (xs.take k).foldl (wvS w) 0 ∧ (xs.take k).foldl (wvS w) 0 ≤ 32 * (k : Int)
  | 0, _ => by simp
  | k + 1, hk => by
    have h1 := wvS_le (w := w) h k (by omega)
    have h2 := shl_le (h.at (k := k) (by omega))
    rw [← fold_step (f := wvS w) 0 (by omega) rfl]
    simp only [wvS] at *
    split <;> omega
theorem vals_vals (d : Int) : Vals (valsI d) := fun _ h => valsI_mem h
theorem vals_one {v : Int} (h : 0 ≤ v ∧ v ≤ 5) : Vals [v] := fun u hu => by rw [List.mem_singleton.1 hu]; exact h
/-! The game. -/
theorem game_at {fa : Bool} {f : Int → Int × Bool} {vs : List Int} {k : Nat} {b : Int} {s : Bool} (h : k < vs.length) : gameGo fa f (vs.drop k) b s =
    if fa && !(f (vs.getD k 0)).2 then (0, false) else if (f (vs.getD k 0)).2 && ((!s || (fa && decide (b < (f (vs.getD k 0)).1))) || (!fa && decide ((f (vs.getD k 0)).1 < b))) then gameGo fa f (vs.drop (k + 1)) (f (vs.getD k 0)).1 true else gameGo fa f (vs.drop (k + 1)) b s := by
  rw [List.drop_eq_getElem_cons h]
  have : vs.getD k 0 = vs[k] := by simp [List.getD, h]
  rw [this]; rfl
theorem game_T {fa : Bool} {f : Int → Int × Bool} {vs : List Int} {k : Nat} {b : Int} {s : Bool} {R : Int × Bool} (h : gameGo fa f (vs.drop k) b s = R) (hk : k < vs.length) (c1 : (fa && !(f (vs.getD k 0)).2) = false)
    (c2 : ((f (vs.getD k 0)).2 && ((!s || (fa && decide (b < (f (vs.getD k 0)).1))) || (!fa && decide ((f (vs.getD k 0)).1 < b)))) = true) : gameGo fa f (vs.drop (k + 1)) (f (vs.getD k 0)).1 true = R := by
  rw [game_at hk, if_neg (by rw [c1]; simp), if_pos c2] at h; exact h
theorem game_F {fa : Bool} {f : Int → Int × Bool} {vs : List Int} {k : Nat} {b : Int} {s : Bool} {R : Int × Bool} (h : gameGo fa f (vs.drop k) b s = R) (hk : k < vs.length) (c1 : (fa && !(f (vs.getD k 0)).2) = false)
    (c2 : ((f (vs.getD k 0)).2 && ((!s || (fa && decide (b < (f (vs.getD k 0)).1))) || (!fa && decide ((f (vs.getD k 0)).1 < b)))) = false) : gameGo fa f (vs.drop (k + 1)) b s = R := by
  rw [game_at hk, if_neg (by rw [c1]; simp), if_neg (by rw [c2]; simp)] at h; exact h
theorem game_end {fa : Bool} {f : Int → Int × Bool} {vs : List Int} {k : Nat} {b : Int} {s : Bool} (h : ¬ (k : Int) < (vs.length : Int)) : gameGo fa f (vs.drop k) b s = (b, s) := by
  rw [List.drop_eq_nil_of_le (by omega)]; rfl
def objOkB (m : Mod) (obj : List Int) : Bool := (validModB m && decide ((obj.length : Int) = (m.doms.length : Int))) && allInB obj (-9) 9
def objOkS (m : Mod) (obj : List Int) : Bool := decide ((obj.length : Int) = (m.doms.length : Int)) && allInB obj (-9) 9
theorem objok {m : Mod} {obj : List Int} (h : objOkB m obj = true) : MOk m ∧ obj.length = m.doms.length ∧ Coef obj := by
  simp only [objOkB, Bool.and_eq_true, decide_eq_true_eq, allInB_iff] at h
  exact ⟨⟨h.1.1⟩, by omega, h.2⟩
theorem obj_eq (m : Mod) (obj : List Int) : objOkB m obj = (validModB m && objOkS m obj) := by simp only [objOkB, objOkS, Bool.and_assoc]
def emptyB (ds : List Int) : Bool := ds.contains 0
def gOkB (m : Mod) (fa : List Bool) : Bool := fOkB m fa && !(m.doms.contains 0)
def mmB (m : Mod) (obj : List Int) (fa : List Bool) : Bool := gOkB m fa && objOkB m obj
theorem mmok {m : Mod} {obj : List Int} {fa : List Bool} (h : mmB m obj fa = true) : MOk m ∧ fa.length = m.doms.length ∧ obj.length = m.doms.length ∧ Coef obj := by
  simp only [mmB, gOkB, Bool.and_eq_true] at h
  exact ⟨(fok h.1.1).1, (fok h.1.1).2, (objok h.2).2⟩
def minimaxB (m : Mod) (obj : List Int) (fa : List Bool) : Int × Bool := if mmB m obj fa = true then (if (gameB m obj fa m.doms.length []).2 = true then ((gameB m obj fa m.doms.length []).1, true) else (0, false)) else (0, false)
theorem row_step {r x : List Int} {j : Nat} {b : Bool} (hj : j < x.length) (hl : r.length = x.length) (h : b = decide (r.take j = x.take j)) : (b && decide (r.getD j 0 = x.getD j 0)) = decide (r.take (j + 1) = x.take (j + 1)) := by
  subst h
  rw [take_succ_getD 0 hj, take_succ_getD 0 (by omega : j < r.length), Bool.eq_iff_iff]
  simp only [Bool.and_eq_true, decide_eq_true_eq]
  constructor
  · rintro ⟨h1, h2⟩; rw [h1, h2]
  · intro h
    have := List.append_inj h (by simp; omega)
    exact ⟨this.1, by simpa using this.2⟩
theorem row_neq {r x : List Int} {j : Nat} {b : Bool} (hj : j = x.length) (hl : r.length = x.length) (h : b = decide (r.take j = x.take j)) (c : b = false) : decide (r = x) = false := by
  subst hj c
  rw [List.take_length, ← hl, List.take_length] at h
  exact h.symm
theorem row_eq {r x : List Int} {j : Nat} {b : Bool} (hj : j = x.length) (hl : r.length = x.length) (h : b = decide (r.take j = x.take j)) (c : b = true) : decide (r = x) = true := by
  subst hj c
  rw [List.take_length, ← hl, List.take_length] at h
  exact h.symm
theorem dh_T {d : Int} {k : Nat} (h : (withinB (k : Int) 0 5 && hasB d (k : Int)) = true) : hasB d (k : Int) = true := by simp only [Bool.and_eq_true] at h; exact h.2
theorem dh_F {d : Int} {k : Nat} (hk : k < 6) (h : (withinB (k : Int) 0 5 && hasB d (k : Int)) = false) : hasB d (k : Int) = false := by
  rw [show withinB (k : Int) 0 5 = true from by rw [withinB_iff]; omega] at h; simpa using h
/-! Violated constraints. -/
def violTo (m : Mod) (x : List Int) (k : Nat) : List Int := natsI ((List.range k).filter (fun i => !(conAt x (m.cons.getD i nilCon))))
def violI (m : Mod) (x : List Int) : List Int := violTo m x m.cons.length
theorem viol_stepT {m : Mod} {x : List Int} {k : Nat} {out : List Int} (h : out = violTo m x k) (c : (!(conAt x (m.cons.getD k nilCon))) = true) : out ++ [(k : Int)] = violTo m x (k + 1) := by
  subst h; simp only [violTo, natsI, filter_succ, c, if_true, List.map_append, List.map_cons, List.map_nil]
theorem viol_stepF {m : Mod} {x : List Int} {k : Nat} {out : List Int} (h : out = violTo m x k) (c : (!(conAt x (m.cons.getD k nilCon))) = false) : out = violTo m x (k + 1) := by
  subst h; simp only [violTo, natsI, filter_succ, c]; simp
theorem viol_len {m : Mod} {x : List Int} {k : Nat} {out : List Int} (h : out = violTo m x k) : out.length ≤ k := by
  subst h; simp only [violTo, natsI, List.length_map]
  exact Nat.le_trans (List.length_filter_le _ _) (by simp)
theorem viol_none (m : Mod) (x : List Int) : decide (((violI m x).length : Int) = 0) = metB m x := by
  rw [Bool.eq_iff_iff, decide_eq_true_eq]
  simp only [violI, violTo, natsI, List.length_map, metB, List.all_eq_true]
  constructor
  · intro h c hc
    obtain ⟨i, hi, rfl⟩ := List.getElem_of_mem hc
    have h0 : (List.range m.cons.length).filter (fun i => !(conAt x (m.cons.getD i nilCon))) = [] := List.eq_nil_of_length_eq_zero (by omega)
    have := List.filter_eq_nil_iff.1 h0 i (by simpa using hi)
    simpa [List.getD, hi] using this
  · intro h
    have : (List.range m.cons.length).filter (fun i => !(conAt x (m.cons.getD i nilCon))) = [] := List.filter_eq_nil_iff.2 fun i hi => by
      have hi : i < m.cons.length := by simpa using hi
      have := h (m.cons.getD i nilCon) (getD_mem hi)
      rw [this]; simp
    rw [this]; rfl
/-! Minimax, case by case. -/
section mm
variable {m : Mod} {obj : List Int} {fa : List Bool}
theorem mm_no (h : mmB m obj fa = false) : minimaxB m obj fa = (0, false) := by unfold minimaxB; rw [h]; rfl
theorem mm_c (h : (!(gOkB m fa) || !(objOkB m obj)) = true) : mmB m obj fa = false := by revert h; unfold mmB; cases gOkB m fa <;> cases objOkB m obj <;> simp
theorem mm_1 (h : (!(gOkB m fa) || !(objOkB m obj)) = true) : (0 : Int) = (minimaxB m obj fa).1 := by rw [mm_no (mm_c h)]
theorem mm_1b (h : (!(gOkB m fa) || !(objOkB m obj)) = true) : false = (minimaxB m obj fa).2 := by rw [mm_no (mm_c h)]
theorem mm_g (h : (!((gameB m obj fa m.doms.length []).2)) = true) : minimaxB m obj fa = (0, false) := by
  unfold minimaxB; rw [show (gameB m obj fa m.doms.length []).2 = false by simpa using h]; split <;> rfl
theorem mm_2 (h : (!((gameB m obj fa m.doms.length []).2)) = true) : (0 : Int) = (minimaxB m obj fa).1 := by rw [mm_g h]
theorem mm_2b (h : (!((gameB m obj fa m.doms.length []).2)) = true) : false = (minimaxB m obj fa).2 := by rw [mm_g h]
theorem mm_y (h : (!(gOkB m fa) || !(objOkB m obj)) = false) (g : (!((gameB m obj fa m.doms.length []).2)) = false) : minimaxB m obj fa = ((gameB m obj fa m.doms.length []).1, true) := by
  have h' : mmB m obj fa = true := by revert h; unfold mmB; cases gOkB m fa <;> cases objOkB m obj <;> simp
  unfold minimaxB; rw [if_pos h', if_pos (by simpa using g)]
theorem mm_3 (h : (!(gOkB m fa) || !(objOkB m obj)) = false) (g : (!((gameB m obj fa m.doms.length []).2)) = false) : (gameB m obj fa m.doms.length []).1 = (minimaxB m obj fa).1 := by rw [mm_y h g]
theorem mm_3b (h : (!(gOkB m fa) || !(objOkB m obj)) = false) (g : (!((gameB m obj fa m.doms.length []).2)) = false) : true = (minimaxB m obj fa).2 := by rw [mm_y h g]
theorem mm_swap : ((!(fOkB m fa) || !(objOkS m obj)) || m.doms.contains 0) = (!(gOkB m fa) || !(objOkB m obj)) := by
  rw [obj_eq]
  unfold gOkB fOkB
  cases validModB m <;> cases decide ((fa.length : Int) = (m.doms.length : Int)) <;> cases objOkS m obj <;> cases m.doms.contains 0 <;> rfl
theorem mm_s' (h : ((!(fOkB m fa) || !(objOkS m obj)) || m.doms.contains 0) = false) : (!(gOkB m fa) || !(objOkB m obj)) = false := by rw [← mm_swap]; exact h
theorem mm_s (h : ((!(fOkB m fa) || !(objOkS m obj)) || m.doms.contains 0) = false) : mmB m obj fa = true := by
  have := mm_s' h; revert this; unfold mmB; cases gOkB m fa <;> cases objOkB m obj <;> simp
theorem mmS_1 (h : ((!(fOkB m fa) || !(objOkS m obj)) || m.doms.contains 0) = true) : (0 : Int) = (minimaxB m obj fa).1 := mm_1 (by rw [← mm_swap]; exact h)
theorem mmS_1b (h : ((!(fOkB m fa) || !(objOkS m obj)) || m.doms.contains 0) = true) : false = (minimaxB m obj fa).2 := mm_1b (by rw [← mm_swap]; exact h)
end mm
end Go.Proofs.Ytiilanckbocifaa
