/- Parts of the proof: a logic of partial frames, plain functions, walks of the program's functions. Conditions: those that each statement names. -/
import Derived.Test.YtolndgeihijlbaaGreatKExactProveBound2
namespace Go.Proofs.YtolndgeihijlbaaGreat
open Go
set_option linter.unusedSimpArgs false
set_option linter.unusedVariables false
section
/-! ### Small cases, asked one by one -/
theorem fin_nat {n : Nat} {p : Int → Prop} (h : ∀ i, i < n → p ((i : Nat) : Int)) {x : Int} (h0 : 0 ≤ x) (h1 : x < n) : p x := by
  obtain ⟨i, rfl⟩ := Int.eq_ofNat_of_zero_le h0
  exact h i (by omega)
/-- Lists of at most four values. -/
theorem fin_list {p : List Int → Prop} (h0 : p []) (h1 : ∀ a, a < 6 → p [((a : Nat) : Int)]) (h2 : ∀ a, a < 6 → ∀ b, b < 6 → p [((a : Nat) : Int), ((b : Nat) : Int)])
    (h3 : ∀ a, a < 6 → ∀ b, b < 6 → ∀ c, c < 6 → p [((a : Nat) : Int), ((b : Nat) : Int), ((c : Nat) : Int)])
    (h4 : ∀ a, a < 6 → ∀ b, b < 6 → ∀ c, c < 6 → ∀ d, d < 6 → p [((a : Nat) : Int), ((b : Nat) : Int), ((c : Nat) : Int), ((d : Nat) : Int)])
    {x : List Int} (hl : x.length ≤ 4) (hv : ∀ v ∈ x, (0 : Int) ≤ v ∧ v ≤ 5) : p x := by
  have key : ∀ v ∈ x, ∃ n : Nat, n < 6 ∧ v = (n : Int) := fun v hm => by
    obtain ⟨a, b⟩ := hv v hm
    obtain ⟨n, rfl⟩ := Int.eq_ofNat_of_zero_le a
    exact ⟨n, by omega, rfl⟩
  match x, hl with
  | [], _ => exact h0
  | [a], _ =>
    obtain ⟨a, ha, rfl⟩ := key a (by simp)
    exact h1 a ha
  | [a, b], _ =>
    obtain ⟨a, ha, rfl⟩ := key a (by simp)
    obtain ⟨b, hb, rfl⟩ := key b (by simp)
    exact h2 a ha b hb
  | [a, b, c], _ =>
    obtain ⟨a, ha, rfl⟩ := key a (by simp)
    obtain ⟨b, hb, rfl⟩ := key b (by simp)
    obtain ⟨c, hc, rfl⟩ := key c (by simp)
    exact h3 a ha b hb c hc
  | [a, b, c, d], _ =>
    obtain ⟨a, ha, rfl⟩ := key a (by simp)
    obtain ⟨b, hb, rfl⟩ := key b (by simp)
    obtain ⟨c, hc, rfl⟩ := key c (by simp)
    obtain ⟨d, hd, rfl⟩ := key d (by simp)
    exact h4 a ha b hb c hc d hd
/-! ### Domains -/
def valsI (d : Int) : List Int := membersTo d 6
def popI (d : Int) : Int := ((valsI d).length : Int)
theorem membersTo_len (b : Int) (k : Nat) : (membersTo b k).length ≤ k := members_len rfl
theorem valsI_mem {d v : Int} (h : v ∈ valsI d) : 0 ≤ v ∧ v ≤ 5 := by
  simp only [valsI, membersTo, natsI, List.mem_map, List.mem_filter, List.mem_range] at h
  obtain ⟨i, ⟨h1, _⟩, rfl⟩ := h
  omega
/-! ### Sums -/
def dotTo (a x : List Int) (k : Nat) : Int := ((List.range k).map (fun i => a.getD i 0 * x.getD i 0)).sum
theorem dot_succ (a x : List Int) (k : Nat) : dotTo a x (k + 1) = dotTo a x k + a.getD k 0 * x.getD k 0 := by
  simp [dotTo, List.range_succ]
def Coef (a : List Int) : Prop := ∀ v ∈ a, (-9 : Int) ≤ v ∧ v ≤ 9
def Vals (x : List Int) : Prop := ∀ v ∈ x, (0 : Int) ≤ v ∧ v ≤ 5
theorem Vals.at {x : List Int} (h : Vals x) {k : Nat} (hk : k < x.length) : (0 : Int) ≤ x.getD k 0 ∧ x.getD k 0 ≤ 5 := h _ (getD_mem hk)
theorem Coef.at {x : List Int} (h : Coef x) {k : Nat} (hk : k < x.length) : (-9 : Int) ≤ x.getD k 0 ∧ x.getD k 0 ≤ 9 := h _ (getD_mem hk)
theorem prod_le {a v : Int} (ha : (-9 : Int) ≤ a ∧ a ≤ 9) (hv : (0 : Int) ≤ v ∧ v ≤ 5) : -45 ≤ a * v ∧ a * v ≤ 45 := by
  obtain ⟨h1, h2⟩ := hv
  have h : v = 0 ∨ v = 1 ∨ v = 2 ∨ v = 3 ∨ v = 4 ∨ v = 5 := by omega
  rcases h with rfl | rfl | rfl | rfl | rfl | rfl <;> omega
theorem dot_le {a x : List Int} (ha : Coef a) (hx : Vals x) : ∀ k : Nat, k ≤ a.length → k ≤ x.length → -(45 * (k : Int)) ≤ dotTo a x k ∧ dotTo a x k ≤ 45 * (k : Int)
  | 0, _, _ => by simp [dotTo]
  | k + 1, h1, h2 => by
    have := dot_le ha hx k (by omega) (by omega)
    have hp := prod_le (ha.at (k := k) (by omega)) (hx.at (k := k) (by omega))
    rw [dot_succ]; omega
/-! ### What constraints say of values -/
def cntTo (x : List Int) (a : Int) (k : Nat) : Int := (((x.take k).filter (fun v => decide (v = a))).length : Int)
theorem cnt_succ {x : List Int} {a : Int} {k : Nat} (h : k < x.length) : cntTo x a (k + 1) = cntTo x a k + (if x.getD k 0 = a then 1 else 0) := by
  simp only [cntTo]
  rw [take_succ_getD 0 h, List.filter_append]
  by_cases e : x.getD k 0 = a
  · rw [if_pos e]
    have e' : decide (x.getD k 0 = a) = true := decide_eq_true e
    simp only [List.filter_cons, e', List.filter_nil, if_true, List.length_append, List.length_cons, List.length_nil]; omega
  · rw [if_neg e]
    have e' : decide (x.getD k 0 = a) = false := decide_eq_false e
    simp only [List.filter_cons, e', List.filter_nil, List.append_nil]; simp
theorem cnt_le (x : List Int) (a : Int) (k : Nat) : 0 ≤ cntTo x a k ∧ cntTo x a k ≤ k := by
  simp only [cntTo]
  refine ⟨by omega, ?_⟩
  have := List.length_filter_le (fun v => decide (v = a)) (x.take k)
  have h2 : (x.take k).length ≤ k := by simp; omega
  omega
abbrev runsB (a x : List Int) (t i : Nat) : Bool := decide (x.getD i 0 ≤ (t : Int)) && decide ((t : Int) < x.getD i 0 + a.getD i 0)
def loadTo (a x : List Int) (t k : Nat) : Int := ((List.range k).map (fun i => if runsB a x t i = true then a.getD (x.length + i) 0 else 0)).sum
theorem load_succ (a x : List Int) (t k : Nat) : loadTo a x t (k + 1) = loadTo a x t k + (if runsB a x t k = true then a.getD (x.length + k) 0 else 0) := by
  simp [loadTo, List.range_succ]
def roomTo (c : Con) (x : List Int) (k : Nat) : Bool := (List.range k).all (fun t => decide (loadTo c.args x t x.length ≤ c.bound))
def roomB (c : Con) (x : List Int) : Bool := roomTo c x 15
theorem load_stepT {a x : List Int} {t k : Nat} {s : Int} (h : s = loadTo a x t k) (c : runsB a x t k = true) : s + a.getD (x.length + k) 0 = loadTo a x t (k + 1) := by rw [load_succ, if_pos c, h]
theorem load_stepF {a x : List Int} {t k : Nat} {s : Int} (h : s = loadTo a x t k) (c : runsB a x t k = false) : s = loadTo a x t (k + 1) := by rw [load_succ, if_neg (by rw [c]; simp), h]; simp
theorem load_le {a x : List Int} (h : ∀ v ∈ a, (0 : Int) ≤ v ∧ v ≤ 9) (hl : 2 * x.length ≤ a.length) (t : Nat) : ∀ k : Nat, k ≤ x.length → 0 ≤ loadTo a x t k ∧ loadTo a x t k ≤ 9 * (k : Int)
  | 0, _ => by simp [loadTo]
  | k + 1, hk => by
    have h1 := load_le h hl t k (by omega)
    have h2 := h _ (getD_mem (d := (0 : Int)) (by omega : x.length + k < a.length))
    rw [load_succ]
    split <;> omega
theorem room_succ (c : Con) (x : List Int) (k : Nat) : roomTo c x (k + 1) = (roomTo c x k && decide (loadTo c.args x k x.length ≤ c.bound)) := by
  simp [roomTo, List.range_succ]
theorem room_no {c : Con} {x : List Int} {k : Nat} (hk : k < 15) (h : ¬ loadTo c.args x k x.length ≤ c.bound) : roomB c x = false := by
  cases hr : roomB c x with
  | false => rfl
  | true =>
    simp only [roomB, roomTo, List.all_eq_true, List.mem_range, decide_eq_true_eq] at hr
    exact absurd (hr k hk) h
theorem room_no' {c : Con} {x : List Int} {k i : Nat} {s : Int} (hk : k < 15) (e : s = loadTo c.args x k i) (hi : i = x.length) (h : c.bound < s) : false = roomB c x := by
  subst hi e; exact (room_no hk (by omega)).symm
theorem room_step {c : Con} {x : List Int} {k i : Nat} {s : Int} (h0 : roomTo c x k = true) (e : s = loadTo c.args x k i) (hi : i = x.length) (h : ¬ c.bound < s) : roomTo c x (k + 1) = true := by
  subst hi e; rw [room_succ, h0, decide_eq_true (by omega)]; rfl
theorem room_yes {c : Con} {x : List Int} {k : Nat} (h0 : roomTo c x k = true) (hk : k = 15) : true = roomB c x := by subst hk; exact h0.symm
abbrev stepA (rows : List (List Int)) (s v : Int) : Int := (rows.getD s.toNat []).getD v.toNat 0
def accGo (rows : List (List Int)) : Int → List Int → Int
  | s, [] => s
  | s, v :: vs => if stepA rows s v < 0 then -1 else accGo rows (stepA rows s v) vs
def accB (c : Con) (x : List Int) : Bool := decide (0 ≤ accGo c.rows 0 x) && c.args.contains (accGo c.rows 0 x)
theorem acc_at {rows : List (List Int)} {s : Int} {x : List Int} {k : Nat} (h : k < x.length) :
    accGo rows s (x.drop k) = if stepA rows s (x.getD k 0) < 0 then -1 else accGo rows (stepA rows s (x.getD k 0)) (x.drop (k + 1)) := by
  rw [List.drop_eq_getElem_cons h]
  have : x.getD k 0 = x[k] := by simp [List.getD, h]
  rw [this]; rfl
def RowsOk (rows : List (List Int)) : Prop := ∀ r ∈ rows, r.length = 6 ∧ ∀ v ∈ r, (-1 : Int) ≤ v ∧ v < rows.length
theorem acc_no {c : Con} {x : List Int} {k : Nat} {s : Int} (hk : k < x.length) (h : accGo c.rows s (x.drop k) = accGo c.rows 0 x) (hn : stepA c.rows s (x.getD k 0) < 0) : false = accB c x := by
  have e : accGo c.rows 0 x = -1 := by rw [← h, acc_at hk, if_pos hn]
  unfold accB; rw [e]; rfl
theorem acc_step {rows : List (List Int)} {x : List Int} {k : Nat} {s : Int} (hr : RowsOk rows) (hk : k < x.length) (hs : 0 ≤ s ∧ s < rows.length) (hv : (0 : Int) ≤ x.getD k 0 ∧ x.getD k 0 ≤ 5)
    (h : accGo rows s (x.drop k) = accGo rows 0 x) (hn : ¬ stepA rows s (x.getD k 0) < 0) :
    0 ≤ stepA rows s (x.getD k 0) ∧ stepA rows s (x.getD k 0) < rows.length ∧ accGo rows (stepA rows s (x.getD k 0)) (x.drop (k + 1)) = accGo rows 0 x := by
  have h1 := hr _ (getD_mem (d := ([] : List Int)) (by omega : s.toNat < rows.length))
  have h2 := h1.2 _ (getD_mem (d := (0 : Int)) (by omega : (x.getD k 0).toNat < (rows.getD s.toNat []).length))
  refine ⟨by omega, h2.2, ?_⟩
  rw [← h, acc_at hk, if_neg hn]
theorem acc_yes {c : Con} {x : List Int} {k : Nat} {s : Int} (hk : k = x.length) (hs : 0 ≤ s) (h : accGo c.rows s (x.drop k) = accGo c.rows 0 x) : c.args.contains s = accB c x := by
  subst hk
  rw [List.drop_length] at h
  have e : accGo c.rows 0 x = s := by rw [← h]; rfl
  unfold accB; rw [e, decide_eq_true hs]; rfl
def cycIGo (x : List Int) : Nat → Int → Int → Bool
  | 0, a, s => decide (a = 0) && decide (s = x.length)
  | f + 1, a, s => if decide (a ≠ 0) && decide (s ≤ x.length) then cycIGo x f (x.getD a.toNat 0) (s + 1) else decide (a = 0) && decide (s = x.length)
def cycI (x : List Int) : Bool := if x.any (fun v => decide ((x.length : Int) ≤ v)) = true then false else cycIGo x x.length (x.getD 0 0) 1
def cycSGo (x : List Int) : Nat → Int → Int → Bool
  | 0, _, _ => false
  | f + 1, a, n => if (x.length : Int) ≤ x.getD a.toNat 0 then false else if x.getD a.toNat 0 = 0 then decide (n = x.length) else cycSGo x f (x.getD a.toNat 0) (n + 1)
def cycB (x : List Int) : Bool := cycSGo x x.length 0 1
theorem cyc_eq {x : List Int} (hl : x.length ≤ 4) (hv : Vals x) (h1 : 1 ≤ x.length) : cycI x = cycB x := by
  revert h1
  refine fin_list (p := fun x => 1 ≤ x.length → cycI x = cycB x) ?_ ?_ ?_ ?_ ?_ hl hv
  · intro h; simp at h
  · have : ∀ a, a < 6 → cycI [((a : Nat) : Int)] = cycB [((a : Nat) : Int)] := by decide +kernel
    exact fun a ha _ => this a ha
  · have : ∀ a, a < 6 → ∀ b, b < 6 → cycI [((a : Nat) : Int), ((b : Nat) : Int)] = cycB [((a : Nat) : Int), ((b : Nat) : Int)] := by decide +kernel
    exact fun a ha b hb _ => this a ha b hb
  · have : ∀ a, a < 6 → ∀ b, b < 6 → ∀ c, c < 6 → cycI [((a : Nat) : Int), ((b : Nat) : Int), ((c : Nat) : Int)] = cycB [((a : Nat) : Int), ((b : Nat) : Int), ((c : Nat) : Int)] := by decide +kernel
    exact fun a ha b hb c hc _ => this a ha b hb c hc
  · have : ∀ a, a < 6 → ∀ b, b < 6 → ∀ c, c < 6 → ∀ d, d < 6 → cycI [((a : Nat) : Int), ((b : Nat) : Int), ((c : Nat) : Int), ((d : Nat) : Int)] = cycB [((a : Nat) : Int), ((b : Nat) : Int), ((c : Nat) : Int), ((d : Nat) : Int)] := by decide +kernel
    exact fun a ha b hb c hc d hd _ => this a ha b hb c hc d hd
theorem cyc_bad {x : List Int} (h : (x.any (fun v => decide ((x.length : Int) ≤ v))) = true) : false = cycI x := by unfold cycI; rw [if_pos h]
theorem cyc_in {x : List Int} (h : (x.any (fun v => decide ((x.length : Int) ≤ v))) = false) : ∀ v ∈ x, v < x.length := fun v hv => by
  simp only [List.any_eq_false, decide_eq_true_eq] at h
  have := h v hv; omega
theorem cyc_step {x : List Int} {f : Nat} {a s : Int} {R : Bool} (h : cycIGo x f a s = R) (hf : 0 < f) (c : (decide (a ≠ 0) && decide (s ≤ (x.length : Int))) = true) : cycIGo x (f - 1) (x.getD a.toNat 0) (s + 1) = R := by
  obtain ⟨g, rfl⟩ : ∃ g, f = g + 1 := ⟨f - 1, by omega⟩
  rw [← h, cycIGo, if_pos c]; rfl
theorem cyc_end {x : List Int} {f : Nat} {a s : Int} (hin : (x.any (fun v => decide ((x.length : Int) ≤ v))) = false) (h : cycIGo x f a s = cycIGo x x.length (x.getD 0 0) 1) (c : (decide (a ≠ 0) && decide (s ≤ (x.length : Int))) = false) :
    (decide (a = 0) && decide (s = (x.length : Int))) = cycI x := by
  unfold cycI; rw [hin, ← h]
  cases f with
  | zero => rfl
  | succ f => rw [cycIGo, c]; rfl
theorem cycS_at {x : List Int} {k : Nat} {a : Int} {R : Bool} (h : cycSGo x (x.length + 1 - k) a (k : Int) = R) (hk : k ≤ x.length) :
    R = if (x.length : Int) ≤ x.getD a.toNat 0 then false else if x.getD a.toNat 0 = 0 then decide ((k : Int) = x.length) else cycSGo x (x.length + 1 - (k + 1)) (x.getD a.toNat 0) (((k + 1 : Nat)) : Int) := by
  rw [← h, show x.length + 1 - k = (x.length + 1 - (k + 1)) + 1 from by omega, cycSGo]
  simp
theorem cycS_0 {x : List Int} {k : Nat} {a : Int} {R : Bool} (h : cycSGo x (x.length + 1 - k) a (k : Int) = R) (hk : ¬ (k : Int) ≤ x.length) : false = R := by
  rw [← h, show x.length + 1 - k = 0 from by omega]; rfl
/-- A constraint at the values of its variables. -/
def satB (c : Con) (x : List Int) : Bool :=
  if c.kind = 1 then decide (dotTo c.args x x.length ≤ c.bound)
  else if c.kind = 2 then decide (x.getD 0 0 ≠ x.getD 1 0 + c.args.getD 0 0)
  else if c.kind = 3 then distinctB x
  else if c.kind = 4 then decide (x.getD 0 0 < c.args.length) && decide (c.args.getD (x.getD 0 0).toNat 0 = x.getD 1 0)
  else if c.kind = 5 then c.rows.any (fun r => decide (r = x))
  else if c.kind = 6 then decide (cntTo x (c.args.getD 0 0) x.length = c.bound)
  else if c.kind = 7 then roomB c x
  else if c.kind = 8 then accB c x
  else cycB x
section kinds
variable {c : Con} {x : List Int}
theorem sat_1 (e : c.kind = 1) : satB c x = decide (dotTo c.args x x.length ≤ c.bound) := by simp [satB, e]
theorem sat_2 (e : c.kind = 2) : satB c x = decide (x.getD 0 0 ≠ x.getD 1 0 + c.args.getD 0 0) := by simp [satB, e]
theorem sat_3 (e : c.kind = 3) : satB c x = distinctB x := by simp [satB, e]
theorem sat_4 (e : c.kind = 4) : satB c x = (decide (x.getD 0 0 < (c.args.length : Int)) && decide (c.args.getD (x.getD 0 0).toNat 0 = x.getD 1 0)) := by simp [satB, e]
theorem sat_5 (e : c.kind = 5) : satB c x = c.rows.any (fun r => decide (r = x)) := by simp [satB, e]
theorem sat_6 (e : c.kind = 6) : satB c x = decide (cntTo x (c.args.getD 0 0) x.length = c.bound) := by simp [satB, e]
theorem sat_7 (e : c.kind = 7) : satB c x = roomB c x := by simp [satB, e]
theorem sat_8 (e : c.kind = 8) : satB c x = accB c x := by simp [satB, e]
theorem sat_9 (h1 : ¬ c.kind = 1) (h2 : ¬ c.kind = 2) (h3 : ¬ c.kind = 3) (h4 : ¬ c.kind = 4) (h5 : ¬ c.kind = 5) (h6 : ¬ c.kind = 6) (h7 : ¬ c.kind = 7) (h8 : ¬ c.kind = 8) : satB c x = cycB x := by simp [satB, *]
end kinds
theorem cnt_stepT {x : List Int} {a s : Int} {k : Nat} (h : s = cntTo x a k) (hk : k < x.length) (c : x.getD k 0 = a) : s + 1 = cntTo x a (k + 1) := by rw [cnt_succ hk, if_pos c, h]
theorem cnt_stepF {x : List Int} {a s : Int} {k : Nat} (h : s = cntTo x a k) (hk : k < x.length) (c : ¬ x.getD k 0 = a) : s = cntTo x a (k + 1) := by rw [cnt_succ hk, if_neg c, h]; simp
theorem popI_le (d : Int) : 0 ≤ popI d ∧ popI d ≤ 6 := by have := membersTo_len d 6; simp only [popI, valsI]; omega
structure SatOk (c : Con) (x : List Int) : Prop where
  fit : fitsB c = true
  len : c.vars.length = x.length
  one : 1 ≤ x.length
  four : x.length ≤ 4
  val : Vals x
theorem SatOk.k1 {c : Con} {x : List Int} (h : SatOk c x) (e : c.kind = 1) : c.args.length = x.length ∧ Coef c.args := by
  have h1 := h.fit; have h2 := h.len
  simp [fitsB, e, allInB_iff] at h1
  exact ⟨by omega, h1.1.1.2⟩
theorem SatOk.k2 {c : Con} {x : List Int} (h : SatOk c x) (e : c.kind = 2) : x.length = 2 ∧ c.args.length = 1 ∧ Coef c.args := by
  have h1 := h.fit; have h2 := h.len
  simp [fitsB, e, allInB_iff] at h1
  exact ⟨by omega, by omega, h1.1.1.2.2⟩
theorem SatOk.k4 {c : Con} {x : List Int} (h : SatOk c x) (e : c.kind = 4) : x.length = 2 := by
  have h1 := h.fit; have h2 := h.len
  simp [fitsB, e] at h1
  omega
theorem SatOk.k5 {c : Con} {x : List Int} (h : SatOk c x) (e : c.kind = 5) : ∀ r ∈ c.rows, r.length = x.length := fun r hr => by
  have h1 := h.fit; have h2 := h.len
  simp [fitsB, e, rowsInB] at h1
  have := (h1.2.2 r hr).1
  omega
theorem SatOk.k6 {c : Con} {x : List Int} (h : SatOk c x) (e : c.kind = 6) : c.args.length = 1 := by
  have h1 := h.fit
  simp [fitsB, e] at h1
  omega
theorem SatOk.k7 {c : Con} {x : List Int} (h : SatOk c x) (e : c.kind = 7) : c.args.length = 2 * x.length ∧ ∀ v ∈ c.args, (0 : Int) ≤ v ∧ v ≤ 9 := by
  have h1 := h.fit; have h2 := h.len
  simp [fitsB, e, allInB_iff] at h1
  exact ⟨by omega, h1.1.1.2⟩
theorem SatOk.k8r {c : Con} {x : List Int} (h : SatOk c x) (e : c.kind = 8) : RowsOk c.rows := by
  have h1 := h.fit
  simp [fitsB, e, rowsInB, allInB_iff, withinB] at h1
  refine fun r hr => ?_
  obtain ⟨h3, h4⟩ := h1.1.1.1.2 r hr
  exact ⟨by omega, fun v hv => by have := h4 v hv; omega⟩
theorem SatOk.k8 {c : Con} {x : List Int} (h : SatOk c x) (e : c.kind = 8) : 1 ≤ c.rows.length ∧ ∀ r ∈ c.rows, r.length = 6 ∧ ∀ v ∈ r, (-1 : Int) ≤ v ∧ v < c.rows.length := by
  have h1 := h.fit
  simp [fitsB, e, rowsInB, allInB_iff, withinB] at h1
  refine ⟨by omega, fun r hr => ?_⟩
  obtain ⟨h3, h4⟩ := h1.1.1.1.2 r hr
  exact ⟨by omega, fun v hv => by have := h4 v hv; omega⟩
/-! ### Words -/
def wordTo (vs x : List Int) (k : Nat) : List Int := (vs.take k).map (fun v => x.getD v.toNat 0)
def wordL (vs x : List Int) : List Int := vs.map (fun v => x.getD v.toNat 0)
theorem word_step {vs x : List Int} {k : Nat} {out : List Int} (e : out = wordTo vs x k) (h : k < vs.length) : out ++ [x.getD (vs.getD k 0).toNat 0] = wordTo vs x (k + 1) := by
  subst e; simp only [wordTo]; rw [take_succ_getD 0 h, List.map_append]; rfl
theorem word_len {vs x : List Int} {k : Nat} {out : List Int} (e : out = wordTo vs x k) : out.length ≤ k := by subst e; simp [wordTo]; omega
theorem word_end {vs x : List Int} {k : Nat} {out : List Int} (e : out = wordTo vs x k) (h : vs.length ≤ k) : out = wordL vs x := by
  subst e; simp only [wordTo, wordL]; rw [List.take_of_length_le h]
/-! ### Models at values -/
def conAt (x : List Int) (c : Con) : Bool := satB c (wordL c.vars x)
def metB (m : Mod) (x : List Int) : Bool := m.cons.all (conAt x)
structure MOk (m : Mod) : Prop where
  v : validModB m = true
theorem MOk.n {m : Mod} (h : MOk m) : 1 ≤ m.doms.length ∧ m.doms.length ≤ 4 := valid_n h.v
theorem MOk.i {m : Mod} (h : MOk m) : InN m.cons m.doms.length := valid_in h.v
theorem MOk.d {m : Mod} (h : MOk m) {k : Nat} (hk : k < m.doms.length) : (0 : Int) ≤ m.doms.getD k 0 ∧ m.doms.getD k 0 ≤ 63 := by
  have := h.v
  simp only [validModB, domainsOkB, Bool.and_eq_true, allInB_iff] at this
  exact this.1.1.2 _ (getD_mem hk)
theorem MOk.c {m : Mod} (h : MOk m) {k : Nat} (hk : k < m.cons.length) : validConB (m.cons.getD k nilCon) m.doms.length = true := by
  have := h.v
  simp only [validModB, Bool.and_eq_true, List.all_eq_true] at this
  exact this.2 _ (getD_mem hk)
theorem MOk.cm {m : Mod} (h : MOk m) {c : Con} (hc : c ∈ m.cons) : validConB c m.doms.length = true := by
  have := h.v
  simp only [validModB, Bool.and_eq_true, List.all_eq_true] at this
  exact this.2 _ hc
theorem MOk.few {m : Mod} (h : MOk m) : m.cons.length ≤ 6 := by
  have := h.v
  simp only [validModB, Bool.and_eq_true, decide_eq_true_eq] at this
  omega
structure ConOk (c : Con) (n : Nat) : Prop where
  v : validConB c n = true
theorem ConOk.vars {c : Con} {n : Nat} (h : ConOk c n) : ∀ v ∈ c.vars, (0 : Int) ≤ v ∧ v < n := fun v hv => by
  have := h.v
  simp only [validConB, Bool.and_eq_true, allInB_iff] at this
  have := this.1.1.2 v hv
  omega
theorem ConOk.one {c : Con} {n : Nat} (h : ConOk c n) : 1 ≤ c.vars.length ∧ c.vars.length ≤ n ∧ n ≤ 4 := by
  have := h.v
  simp only [validConB, Bool.and_eq_true, withinB_iff] at this
  omega
theorem ConOk.at {c : Con} {n k : Nat} (h : ConOk c n) (hk : k < c.vars.length) : (0 : Int) ≤ c.vars.getD k 0 ∧ c.vars.getD k 0 < n := h.vars _ (getD_mem hk)
/-! ### Quantified formulas -/
theorem Vals.snoc {x : List Int} {v : Int} (h : Vals x) (hv : 0 ≤ v ∧ v ≤ 5) : Vals (x ++ [v]) := fun u hu => by
  rcases List.mem_append.1 hu with h' | h'
  · exact h u h'
  · rw [List.mem_singleton.1 h']; exact hv
theorem vals_nil : Vals [] := fun _ h => by cases h
/-! Winning values. -/
theorem shl_le {v : Int} (h : 0 ≤ v ∧ v ≤ 5) : 1 ≤ ishl 1 v ∧ ishl 1 v ≤ 32 := by
  have : ∀ i, i < 6 → 1 ≤ ishl 1 ((i : Nat) : Int) ∧ ishl 1 ((i : Nat) : Int) ≤ 32 := by decide +kernel
  exact fin_nat (n := 6) (p := fun v => 1 ≤ ishl 1 v ∧ ishl 1 v ≤ 32) this h.1 (by omega)
/-! The game. -/
def objOkB (m : Mod) (obj : List Int) : Bool := (validModB m && decide ((obj.length : Int) = (m.doms.length : Int))) && allInB obj (-9) 9
def objOkS (m : Mod) (obj : List Int) : Bool := decide ((obj.length : Int) = (m.doms.length : Int)) && allInB obj (-9) 9
theorem objok {m : Mod} {obj : List Int} (h : objOkB m obj = true) : MOk m ∧ obj.length = m.doms.length ∧ Coef obj := by
  simp only [objOkB, Bool.and_eq_true, decide_eq_true_eq, allInB_iff] at h
  exact ⟨⟨h.1.1⟩, by omega, h.2⟩
theorem obj_eq (m : Mod) (obj : List Int) : objOkB m obj = (validModB m && objOkS m obj) := by simp only [objOkB, objOkS, Bool.and_assoc]
theorem row_step {r x : List Int} {j : Nat} {b : Bool} (hj : j < x.length) (hl : r.length = x.length) (h : b = decide (r.take j = x.take j)) : (b && decide (r.getD j 0 = x.getD j 0)) = decide (r.take (j + 1) = x.take (j + 1)) := by
  subst h
  rw [take_succ_getD 0 hj, take_succ_getD 0 (by omega : j < r.length), Bool.eq_iff_iff]
  simp only [Bool.and_eq_true, decide_eq_true_eq]
  constructor
  · rintro ⟨h1, h2⟩; rw [h1, h2]
  · intro h
    have := List.append_inj h (by simp; omega)
    exact ⟨this.1, by simpa using this.2⟩
theorem row_neq {r x : List Int} {j : Nat} {b : Bool} (hj : j = x.length) (hl : r.length = x.length) (h : b = decide (r.take j = x.take j)) (c : b = false) : decide (r = x) = false := by
  subst hj c
  rw [List.take_length, ← hl, List.take_length] at h
  exact h.symm
theorem row_eq {r x : List Int} {j : Nat} {b : Bool} (hj : j = x.length) (hl : r.length = x.length) (h : b = decide (r.take j = x.take j)) (c : b = true) : decide (r = x) = true := by
  subst hj c
  rw [List.take_length, ← hl, List.take_length] at h
  exact h.symm
theorem dh_T {d : Int} {k : Nat} (h : (withinB (k : Int) 0 5 && hasB d (k : Int)) = true) : hasB d (k : Int) = true := by simp only [Bool.and_eq_true] at h; exact h.2
theorem dh_F {d : Int} {k : Nat} (hk : k < 6) (h : (withinB (k : Int) 0 5 && hasB d (k : Int)) = false) : hasB d (k : Int) = false := by
  rw [show withinB (k : Int) 0 5 = true from by rw [withinB_iff]; omega] at h; simpa using h
/-! Violated constraints. -/
/-! Minimax, case by case. -/
section mm
variable {m : Mod} {obj : List Int} {fa : List Bool}
end mm
end
section
/-! Winning values. -/
/-! A winning value keeps the formula true. -/
end
section
/-! Connectedness. -/
section conn
variable {n : Nat} {p : Nat → Nat → Prop} {w : Nat → Prop} {v a b : Nat}
theorem Conn.lt (h : Conn n p w v b) (hv : v < n) : b < n := by cases h with | refl => exact hv | step _ _ h _ => exact h
theorem Conn.free (h : Conn n p w v b) (hv : ¬ w v) : ¬ w b := by cases h with | refl => exact hv | step _ _ _ h => exact h
theorem Conn.trans (h : Conn n p w v a) (k : Conn n p w a b) : Conn n p w v b := by
  induction k with
  | refl => exact h
  | step _ h1 h2 h3 ih => exact .step ih h1 h2 h3
theorem Conn.symm (hp : ∀ a b, p a b → p b a) (hv : v < n) (hw : ¬ w v) (h : Conn n p w v b) : Conn n p w b v := by
  induction h with
  | refl => exact .refl
  | step h1 h2 h3 h4 ih => exact Conn.trans (.step .refl (hp _ _ h2) (h1.lt hv) (h1.free hw)) ih
end conn
abbrev Cn (m : Mod) (v b : Nat) : Prop := Conn m.doms.length (fun x y => adjB m.cons x y = true) (fun _ => False) v b
theorem adj_symm (m : Mod) : ∀ a b : Nat, adjB m.cons a b = true → adjB m.cons b a = true := fun a b h => by rw [adjB_comm]; exact h
theorem Cn.symm {m : Mod} {v b : Nat} (hv : v < m.doms.length) (h : Cn m v b) : Cn m b v := Conn.symm (adj_symm m) hv (fun h => h) h
structure MaskC (m : Mod) (v : Nat) (x : Nat) : Prop where
  e : linkedI m (v : Int) 0 = (x : Int)
  lt : x < 16
  b : ∀ b, x.testBit b = true ↔ Cn m v b
theorem MaskC.pos {m : Mod} {v x : Nat} (h : MaskC m v x) : 1 ≤ x := by
  have := (h.b v).2 .refl
  refine Nat.one_le_iff_ne_zero.2 (fun e => ?_)
  subst e; simp at this
theorem MaskC.has {m : Mod} {v x b : Nat} (h : MaskC m v x) (hb : b < 4) : hasB (x : Int) (b : Int) = true ↔ Cn m v b := by
  have := h.lt
  rw [hasB_nat (by omega) (by omega), h.b]
/-! Separation. -/
end
section
class IsArr (P : Program) (T : Nat) (n : outParam Nat) : Prop where
  u : ∃ E, P.underlying T = some (.array n E) ∧ (P.info? E).map (·.size) = some 1
class IsStr (P : Program) (T : Nat) : Prop where
  u : P.underlying T = some .string
section ops
variable {C : Cx} {dr : Bool} {ops : Array Oper} {Q : Post} {ims L : List Hp} {G : Env} {fl : List Bool} {rest : List Oper} {d ty : Nat} {pos : String} {af : Array Edge}
end ops
end
section
/-- A loop, its invariant a word on the frame and the world. -/
theorem loopS {A : Type} {P : Program} {R : Option Nat} {Q : Post} {body : Code} (J : A → Prop) (mu : A → Nat) (S : A → Act → World → Prop)
    (round : ∀ x, J x → ∀ a w, S x a w → body.wpIn (FW R) 0 P (Exit.then (fun a w => ∃ x', mu x' < mu x ∧ J x' ∧ S x' a w) Q) a w) : ∀ x a w, J x → S x a w → (Code.loop body).wpIn (FW R) 0 P Q a w := by
  have key : ∀ m x a w, mu x = m → J x → S x a w → (Code.loop body).wpIn (FW R) 0 P Q a w := by
    intro m x a w _ hJ hS
    refine wpIn_loop (I := fun a w => ∃ x, J x ∧ S x a w)
      (μ := fun a w => Classical.epsilon fun m => (∃ x, mu x = m ∧ J x ∧ S x a w) ∧ ∀ x, J x → S x a w → m ≤ mu x) ⟨x, hJ, hS⟩ ?_
    intro a w hI
    have hmin : ∃ m, (∃ x, mu x = m ∧ J x ∧ S x a w) ∧ ∀ x, J x → S x a w → m ≤ mu x := by
      have aux : ∀ k, (∃ x, mu x = k ∧ J x ∧ S x a w) → ∃ m, (∃ x, mu x = m ∧ J x ∧ S x a w) ∧ ∀ x, J x → S x a w → m ≤ mu x := by
        intro k
        induction k using Nat.strongRecOn with
        | _ k ih =>
          intro hk
          by_cases hlow : ∃ x, mu x < k ∧ J x ∧ S x a w
          · obtain ⟨x, h1, h2⟩ := hlow
            exact ih (mu x) h1 ⟨x, rfl, h2⟩
          · exact ⟨k, hk, fun x h1 h2 => Nat.le_of_not_lt fun h4 => hlow ⟨x, h4, h1, h2⟩⟩
      obtain ⟨x, hx⟩ := hI
      exact aux (mu x) ⟨x, rfl, hx⟩
    obtain ⟨⟨x, hm, hJ, hS⟩, hle⟩ := Classical.epsilon_spec hmin
    refine wpIn_mono (round x hJ a w hS) ?_
    intro e a' w' hq
    cases e with
    | normal =>
      obtain ⟨x', hlt, hJ', hS'⟩ := hq
      refine ⟨⟨x', hJ', hS'⟩, ?_⟩
      have hmin' : ∃ m, (∃ x, mu x = m ∧ J x ∧ S x a' w') ∧ ∀ x, J x → S x a' w' → m ≤ mu x := by
        have aux : ∀ k, (∃ x, mu x = k ∧ J x ∧ S x a' w') → ∃ m, (∃ x, mu x = m ∧ J x ∧ S x a' w') ∧ ∀ x, J x → S x a' w' → m ≤ mu x := by
          intro k
          induction k using Nat.strongRecOn with
          | _ k ih =>
            intro hk
            by_cases hlow : ∃ x, mu x < k ∧ J x ∧ S x a' w'
            · obtain ⟨x, h1, h2⟩ := hlow
              exact ih (mu x) h1 ⟨x, rfl, h2⟩
            · exact ⟨k, hk, fun x h1 h2 => Nat.le_of_not_lt fun h4 => hlow ⟨x, h4, h1, h2⟩⟩
        exact aux (mu x') ⟨x', rfl, hJ', hS'⟩
      have h4 := (Classical.epsilon_spec hmin').2 x' hJ' hS'
      exact Nat.lt_of_le_of_lt h4 (hm ▸ hlt)
    | exit id => exact hq
    | goto l => exact hq
    | ret => exact hq
    | panic c => exact hq
    | outgrown => exact hq
  exact fun x a w => key _ x a w rfl
theorem kc_loopX {A : Type} {P : Program} {nt : Nat} {B : World} {df : List Deferred} {R : Option Nat} {Q : Post} {ims L : List Hp} {G : Env} {body : Code} (Xf : A → Side) (J : A → Prop) (mu : A → Nat) (Lf : A → List Hp) (Gf : A → Env) (x0 : A) {Gx : Env}
    (hx : Pick G Gx) (hg : Pick G (Gf x0)) (hl : L = Lf x0) (h0 : J x0)
    (round : ∀ x, J x → KC ⟨P, nt, B, Xf x, false, df, R⟩ (Exit.then (fun a w => ∃ x', mu x' < mu x ∧ J x' ∧ Fit (nt, df) (Gf x' ++ Gx) a ∧ St B (Xf x') ims (Lf x') w) Q) ims (Lf x) body (Gf x ++ Gx)) :
    KC ⟨P, nt, B, Xf x0, false, df, R⟩ Q ims L (.loop body) G := fun a w hf hs => by
  subst hl
  exact loopS J mu (fun x a w => Fit (nt, df) (Gf x ++ Gx) a ∧ St B (Xf x) ims (Lf x) w) (fun x hJ a w ⟨h1, h2⟩ => round x hJ a w h1 h2) x0 a w h0 ⟨(hg.app hx).fit hf, hs⟩
theorem kq_roundX {A : Type} {P : Program} {nt : Nat} {B : World} {X : Side} {df : List Deferred} {R : Option Nat} {ims L : List Hp} {G : Env} {Xf : A → Side} {J : A → Prop} {mu : A → Nat} {Lf : A → List Hp} {Gf : A → Env} {x : A} {Gx : Env} {ims0 L' L0 : List Hp} (x' : A) (hX : X = Xf x')
    (hlt : mu x' < mu x) (hJ : J x') (hg : Pick G (Gf x')) (hx : Pick G Gx) (hl : L0 = Lf x') [i : AllIn ims0 ims] [t : TakeL L0 L L'] :
    KQ ⟨P, nt, B, X, false, df, R⟩ ims L G (fun a w => ∃ x', mu x' < mu x ∧ J x' ∧ Fit (nt, df) (Gf x' ++ Gx) a ∧ St B (Xf x') ims0 (Lf x') w) :=
  fun a w hf hs' => ⟨x', hlt, hJ, (hg.app hx).fit hf, by subst hl hX; exact (hs'.perm t.t).weak (i := i) (List.sublist_append_left _ _)⟩

/-! ### Calls that carry the caller's word -/
/-- The word of the caller, over what is the iterator's elsewhere (Kr) and here (D). -/
def jr (Kr : Hp) (j : (Nat → Prop) → World → Prop) : (Nat → Prop) → World → Prop := fun D w => (∀ b, Kr b ≠ none → b < w.heap.size) ∧ j (fun b => Kr b ≠ none ∨ D b) w
structure JK (j : (Nat → Prop) → World → Prop) : Prop where ok : JOk j
theorem jr_ok {Kr : Hp} {j : (Nat → Prop) → World → Prop} (h : JK j) : JOk (jr Kr j) := fun {D D' w w'} hj hs he hio hd =>
  ⟨fun b hb => Nat.lt_of_lt_of_le (hj.1 b hb) hs, h.ok hj.2 hs (fun b hb hn => he b hb (fun hd => hn (.inr hd))) hio (fun b hb => by
    rcases hb with hb | hb
    · exact ⟨.inl (.inl hb), Nat.lt_of_lt_of_le (hj.1 b hb) hs⟩
    · exact ⟨(hd b hb).1.imp .inr id, (hd b hb).2⟩)⟩
def sj (Kr : Hp) (j : (Nat → Prop) → World → Prop) (h : JK j) : Side := .it (jr Kr j) (jr_ok h)
/-- How such a call ends. -/
def ResJ (w : World) (Kr : Hp) (imsO L0 : List Hp) (phi : Value → List Hp → ((Nat → Prop) → World → Prop) → Prop) : Ending → World → Prop
  | .returned v, w' => w.heap.size ≤ w'.heap.size ∧ Io w w' ∧ Agree Kr w' ∧ (∀ I ∈ imsO, Agree I w') ∧ ∃ L1 j, (∀ H ∈ L1, Agree H w' ∧ Apart H Kr ∧ ∀ I ∈ imsO, Apart H I) ∧ L1.Pairwise Apart ∧
      JK j ∧ j (fun b => Kr b ≠ none ∨ ∃ H ∈ L1, H b ≠ none) w' ∧ phi v L1 j
  | _, _ => False
def SpecJ (P : Program) (f : FuncId) (args : List Value) (Kr : Hp) (imsO L0 : List Hp) (j : (Nat → Prop) → World → Prop) (phi : Value → List Hp → ((Nat → Prop) → World → Prop) → Prop) : Prop :=
  ∀ w, (∀ H ∈ L0, Agree H w ∧ Apart H Kr ∧ ∀ I ∈ imsO, Apart H I) → L0.Pairwise Apart → Agree Kr w → (∀ I ∈ imsO, Agree I w) → j (fun b => Kr b ≠ none ∨ ∃ H ∈ L0, H b ≠ none) w → Calls P f args.toArray w (ResJ w Kr imsO L0 phi)
theorem specJ_of {P : Program} {f : FuncId} {fn : Func} {c : Code} {vs : List Value} {n : Nat} {Kr : Hp} {imsO L0 : List Hp} {j : (Nat → Prop) → World → Prop} {phi : Value → List Hp → ((Nat → Prop) → World → Prop) → Prop} (hj : JK j)
    (hf : P.funcs[f]? = some fn) (hb : fn.body = some c) (hn : fn.ntmps = n) (hle : Nat.ble vs.length n = true)
    (h : ∀ B, KC ⟨P, n, B, sj Kr j hj, false, [], none⟩ (bodyPostM (FW none) 0 P fn (ResJ B Kr imsO L0 phi)) (Kr :: imsO) L0 c (pars 0 vs)) : SpecJ P f vs Kr imsO L0 j phi := fun w hL hp hK hO hjw => by
  refine calls_of_FW (R := none) (n := 0) (callsIn_of_wp_marks hf hb trivial ?_ rfl)
  rw [hn]
  refine h w _ w (fit_pars (Nat.le_of_ble_eq_true hle)) ⟨Nat.le_refl _, fun _ _ _ => rfl, fun I hI => ?_, fun H hH => ⟨(hL H hH).1, fun _ _ => .inr trivial, fun I hI => ?_⟩, hp, Io.refl _, ?_, Nat.zero_le _⟩
  · cases hI with
    | head => exact hK
    | tail _ hI => exact hO I hI
  · cases hI with
    | head => exact (hL H hH).2.1
    | tail _ hI => exact (hL H hH).2.2 I hI
  · refine jr_ok hj ⟨fun b hb => ?_, hjw⟩ (Nat.le_refl _) (fun _ _ _ => rfl) (Io.refl _) (fun b hb => ?_)
    · cases hh : Kr b with
      | none => exact absurd hh hb
      | some o => exact hK.lt hh
    · rcases hb with ⟨H, hH, hb⟩ | ⟨hB, H, hH, hb⟩
      · refine ⟨.inl ⟨H, hH, hb⟩, ?_⟩
        cases hh : H b with
        | none => exact absurd hh hb
        | some o => exact (hL H hH).1.lt hh
      · exfalso
        have hA : Agree H w := by
          cases hH with
          | head => exact hK
          | tail _ hH => exact hO H hH
        cases hh : H b with
        | none => exact hb hh
        | some o => exact absurd (hA.lt hh) (Nat.not_lt.2 hB)
section rets
variable {P : Program} {n : Nat} {B : World} {ims L : List Hp} {G : Env} {fn : Func} {Kr : Hp} {imsO L0 : List Hp} {phi : Value → List Hp → ((Nat → Prop) → World → Prop) → Prop} {j : (Nat → Prop) → World → Prop} {hj : JK j}
/-- L1: what is given back. -/
theorem kq_retJ {v : Value} (hr : ∀ a : Act, Fit (n, []) G a → ∀ w, St B (sj Kr j hj) ims L w → (results fn a.tmps).run P w = .ok v w) (L1 : List Hp) {L' : List Hp} [t : TakeL L1 L L'] [i : AllIn (Kr :: imsO) ims] (hp : phi v L1 j) :
    KQ ⟨P, n, B, sj Kr j hj, false, [], none⟩ ims L G (bodyPostM (FW none) 0 P fn (ResJ B Kr imsO L0 phi) .ret) := fun a w hF hS => by
  show LeavesInM (FW none) 0 P fn a.tmps (ResJ B Kr imsO L0 phi) a.defers .returning w
  rw [show a.defers = [] from hF.defers]
  have h2 := hS.perm t.t
  refine ⟨v, hr a hF w hS, hS.size, hS.io, hS.im Kr (i.all _ (.head _)), fun I hI => hS.im I (i.all _ (.tail _ hI)), L1, j, fun H hH => ?_, (List.pairwise_append.1 h2.nd).1, hj, ?_, hp⟩
  · have ho := h2.own H (List.mem_append_left _ hH)
    exact ⟨ho.1, ho.2.2 Kr (i.all _ (.head _)), fun I hI => ho.2.2 I (i.all _ (.tail _ hI))⟩
  · have hjw : jr Kr j (dm B ims L) w := hS.j
    refine hj.ok hjw.2 (Nat.le_refl _) (fun _ _ _ => rfl) (Io.refl _) (fun b hb => ?_)
    rcases hb with hb | ⟨H, hH, hb⟩
    · exact ⟨.inl (.inl hb), hjw.1 b hb⟩
    · refine ⟨.inl (.inr (.inl ⟨H, t.t.mem_iff.2 (List.mem_append_left _ hH), hb⟩)), ?_⟩
      cases hh : H b with
      | none => exact absurd hh hb
      | some o => exact (h2.own H (List.mem_append_left _ hH)).1.lt hh
theorem kq_retJ1 {t : Nat} {v : Value} (hr : fn.results = #[.tmp t]) (hv : look t G = some v) (L1 : List Hp) {L' : List Hp} [k : TakeL L1 L L'] [i : AllIn (Kr :: imsO) ims] (hp : phi v L1 j) :
    KQ ⟨P, n, B, sj Kr j hj, false, [], none⟩ ims L G (bodyPostM (FW none) 0 P fn (ResJ B Kr imsO L0 phi) .ret) :=
  kq_retJ (fun a hF w _ => by rw [results_tmp hr, (hF.get t v hv).2]) L1 hp
theorem kq_retJ0 (hr : fn.results = #[]) (L1 : List Hp) {L' : List Hp} [k : TakeL L1 L L'] [i : AllIn (Kr :: imsO) ims] (hp : phi (.tuple #[]) L1 j) :
    KQ ⟨P, n, B, sj Kr j hj, false, [], none⟩ ims L G (bodyPostM (FW none) 0 P fn (ResJ B Kr imsO L0 phi) .ret) :=
  kq_retJ (fun a hF w _ => by simp [results, hr]) L1 hp
end rets
/-- Behind such a call, or behind yield: L0 has become L1, the caller's word has turned to j'. -/
theorem St.afterJ {B : World} {Kr : Hp} {j j' : (Nat → Prop) → World → Prop} {hj : JK j} {ims imsO Ks L0 L' L1 : List Hp} {w w' : World} (h : St B (sj Kr j hj) ims (L0 ++ L') w) (hi : ∀ I ∈ Kr :: imsO, I ∈ ims) (hK : ∀ K ∈ Ks, K ∈ ims)
    (hs : w.heap.size ≤ w'.heap.size) (hio : Io w w') (aK : Agree Kr w') (aO : ∀ I ∈ imsO, Agree I w') (aKs : ∀ K ∈ Ks, Agree K w') (aL : ∀ H ∈ L', Agree H w')
    (h1 : ∀ H ∈ L1, Agree H w' ∧ (∀ I ∈ Ks ++ (Kr :: imsO), Apart H I) ∧ ∀ M ∈ L', Apart H M) (hp : L1.Pairwise Apart) (hj' : JK j') (hjw : j' (fun b => Kr b ≠ none ∨ (∃ H ∈ L1, H b ≠ none) ∨ dm B (Ks ++ (Kr :: imsO)) L' b) w') :
    St B (sj Kr j' hj') (Ks ++ (Kr :: imsO)) (L1 ++ L') w' := by
  have himem : ∀ I, I ∈ Ks ++ (Kr :: imsO) → I ∈ ims := fun I hI => (List.mem_append.1 hI).elim (hK I) (hi I)
  have hag : ∀ I, I ∈ Ks ++ (Kr :: imsO) → Agree I w' := fun I hI => by
    rcases List.mem_append.1 hI with hI | hI
    · exact aKs I hI
    · cases hI with
      | head => exact aK
      | tail _ hI => exact aO I hI
  refine ⟨Nat.le_trans h.size hs, fun b _ hx => absurd trivial hx, hag, fun H hH => ?_, ?_, h.io.trans hio, ⟨fun b hb => ?_, ?_⟩, Nat.zero_le _⟩
  · refine ⟨?_, fun _ _ => .inr trivial, fun I hI => ?_⟩
    · rcases List.mem_append.1 hH with hH | hH
      · exact (h1 H hH).1
      · exact aL H hH
    · rcases List.mem_append.1 hH with hH | hH
      · exact (h1 H hH).2.1 I hI
      · exact (h.own H (List.mem_append_right _ hH)).2.2 I (himem I hI)
  · exact List.pairwise_append.2 ⟨hp, (List.pairwise_append.1 h.nd).2.1, fun H hH M hM => (h1 H hH).2.2 M hM⟩
  · cases hh : Kr b with
    | none => exact absurd hh hb
    | some o => exact aK.lt hh
  · refine hj'.ok hjw (Nat.le_refl _) (fun _ _ _ => rfl) (Io.refl _) (fun b hb => ?_)
    rcases hb with hb | hb
    · refine ⟨.inl (.inl hb), ?_⟩
      cases hh : Kr b with
      | none => exact absurd hh hb
      | some o => exact aK.lt hh
    · refine ⟨.inl ?_, dm_lt (B := B) hag (L := L1 ++ L') (fun H hH => ?_) hb⟩
      · rcases hb with ⟨H, hH, hb⟩ | hb
        · rcases List.mem_append.1 hH with hH | hH
          · exact .inr (.inl ⟨H, hH, hb⟩)
          · exact .inr (.inr (.inl ⟨H, hH, hb⟩))
        · exact .inr (.inr (.inr hb))
      · rcases List.mem_append.1 hH with hH | hH
        · exact (h1 H hH).1
        · exact aL H hH
/-- All that is the iterator's, but for L0: as one heaplet. -/
theorem St.restJ {B : World} {Kr : Hp} {j : (Nat → Prop) → World → Prop} {hj : JK j} {ims L0 L' : List Hp} {w : World} (h : St B (sj Kr j hj) ims (L0 ++ L') w) (hi : Kr ∈ ims) :
    ∃ K2 : Hp, (∀ b, K2 b ≠ none ↔ (Kr b ≠ none ∨ dm B ims L' b)) ∧ Agree K2 w ∧ ∀ H ∈ L0, Apart H K2 := by
  have hlt : ∀ b, (Kr b ≠ none ∨ dm B ims L' b) → b < w.heap.size := fun b hb => by
    rcases hb with hb | hb
    · cases hh : Kr b with
      | none => exact absurd hh hb
      | some o => exact (h.im Kr hi).lt hh
    · exact dm_lt (B := B) h.im (fun H hH => (h.own H (List.mem_append_right _ hH)).1) hb
  obtain ⟨K2, h1, h2⟩ := cont_ex (w := w) hlt
  refine ⟨K2, h1, h2, fun H hH b => ?_⟩
  by_cases hb : H b = none
  · exact .inl hb
  · right
    cases hk : K2 b with
    | none => rfl
    | some o =>
      exfalso
      rcases (h1 b).1 (by rw [hk]; simp) with h3 | ⟨M, hM, h3⟩ | ⟨_, I, hI, h3⟩
      · exact h3 (((h.own H (List.mem_append_left _ hH)).2.2 Kr hi b).resolve_left hb)
      · exact h3 (((List.pairwise_append.1 h.nd).2.2 H hH M hM b).resolve_left hb)
      · exact h3 (((h.own H (List.mem_append_left _ hH)).2.2 I hI b).resolve_left hb)
theorem sub_of {H K : Hp} {w : World} (h : Agree H w) (k : Agree K w) (hd : ∀ b, H b ≠ none → K b ≠ none) : ∀ b o, H b = some o → K b = some o := fun b o hb => by
  cases hk : K b with
  | none => exact absurd hk (hd b (by rw [hb]; simp))
  | some x => rw [← agree_cmp h k b o x hb hk]
section calls
variable {P : Program} {nt : Nat} {B : World} {df : List Deferred} {R : Option Nat} {ops : Array Oper} {Q : Post} {ims L : List Hp} {G : Env} {fl : List Bool} {rest : List Oper} {d ty : Nat} {pos : String} {af : Array Edge} {Kr : Hp} {imsO : List Hp} {j : (Nat → Prop) → World → Prop} {hj : JK j}
theorem kl_callJ {f : Operand} {xs : List Operand} {ats : Array Nat} {g : Nat} {cap : Array Value} {vs : List Value} {L0 L' : List Hp} {phi : Value → List Hp → ((Nat → Prop) → World → Prop) → Prop} [hb : FnC P g] (Ks : List Hp)
    (hf : ev G f = some (.func (.func g) #[] cap)) (ha : evs G xs = some vs) (hs : ∀ Kr2, (∀ b o, Kr b = some o → Kr2 b = some o) → (∀ K ∈ Ks, ∀ b o, K b = some o → Kr2 b = some o) → SpecJ P g (vs ++ cap.toList) Kr2 imsO L0 j phi) [hF : TakeL L0 L L'] [hi : AllIn (Kr :: imsO) ims] [hk : AllIn Ks ims] (hfr : ∀ K ∈ Ks, Fr B K)
    (h : ∀ v L1 j' (hj' : JK j'), phi v L1 j' → KL ⟨P, nt, B, sj Kr j' hj', false, df, R⟩ false ops Q (Ks ++ (Kr :: imsO)) (L1 ++ L') fl.tail rest ((d, v) :: G)) (hlt : Nat.blt d nt = true := by rfl) :
    KL ⟨P, nt, B, sj Kr j hj, false, df, R⟩ false ops Q ims L fl (⟨some d, .call ⟨.value f, xs.toArray, ats⟩, ty, pos, af, none⟩ :: rest) G := fun a w hFt hS0 => by
  unfold wpSeq
  rw [if_pos (by simp [Region.wanted])]
  refine .inr ⟨fun e => (by cases e), ?_⟩
  have hrun : (execOp a.eval ⟨some d, .call ⟨.value f, xs.toArray, ats⟩, ty, pos, af, none⟩).run P w = .ok (.enter g (vs ++ cap.toList).toArray) w := by
    have h1 : xs.map a.eval = vs := hFt.evs ha
    simp only [execOp, resolve, hFt.ev hf, Deferred.ofValue, Sem.run_bind, Sem.run_pure, Result.andThen_ok, invoke, List.map_toArray, h1]
    rw [hb.run]
    simp
  unfold Oper.wp
  rw [hrun]
  have hS := hS0.perm hF.t
  obtain ⟨K2, k1, k2, k3⟩ := hS.restJ (hj := hj) (hi.all _ (.head _))
  have hKr := sub_of (hS.im Kr (hi.all _ (.head _))) k2 (fun b hb => (k1 b).2 (.inl hb))
  have hjw : jr Kr j (dm B ims (L0 ++ L')) w := hS.j
  refine (hs K2 hKr (fun K hK => sub_of (hS.im K (hk.all K hK)) k2 (fun b hb => (k1 b).2 (.inr (.inr ⟨(hfr K hK).1 b hb, K, hk.all K hK, hb⟩)))) w (fun H hH => ⟨(hS.own H (List.mem_append_left _ hH)).1, k3 H hH, fun I hI => (hS.own H (List.mem_append_left _ hH)).2.2 I (hi.all _ (.tail _ hI))⟩) (List.pairwise_append.1 hS.nd).1 k2 (fun I hI => hS.im I (hi.all _ (.tail _ hI))) ?_).mono fun e w' he => ?_
  · refine hj.ok hjw.2 (Nat.le_refl _) (fun _ _ _ => rfl) (Io.refl _) (fun b hb => ?_)
    rcases hb with hb | ⟨H, hH, hb⟩
    · have hb' := (k1 b).1 hb
      refine ⟨.inl ?_, ?_⟩
      · rcases hb' with hb' | ⟨H, hH, hb'⟩ | hb'
        · exact .inl hb'
        · exact .inr (.inl ⟨H, List.mem_append_right _ hH, hb'⟩)
        · exact .inr (.inr hb')
      · cases hh : K2 b with
        | none => exact absurd hh hb
        | some o => exact k2.lt hh
    · refine ⟨.inl (.inr (.inl ⟨H, List.mem_append_left _ hH, hb⟩)), ?_⟩
      cases hh : H b with
      | none => exact absurd hh hb
      | some o => exact (hS.own H (List.mem_append_left _ hH)).1.lt hh
  · cases e with
    | returned v =>
      obtain ⟨h1, h2, h3, h4, L1, j', h5, h6, h7, h8, h9⟩ := he
      have hag : ∀ M : Hp, Agree M w → (∀ b, M b ≠ none → K2 b ≠ none) → Agree M w' := fun M hM hd b o hb => h3 b o (sub_of hM k2 hd b o hb)
      have apM : ∀ M : Hp, Agree M w → (∀ b, M b ≠ none → K2 b ≠ none) → ∀ H ∈ L1, Apart H M := fun M _ hd H hH b => by
        rcases (h5 H hH).2.1 b with h | h
        · exact .inl h
        · right
          cases hm : M b with
          | none => rfl
          | some o => exact absurd h (hd b (by rw [hm]; simp))
      have hst : St B (sj Kr j' h7) (Ks ++ (Kr :: imsO)) (L1 ++ L') w' := hS.afterJ (hj := hj) (hj' := h7) (fun I hI => hi.all I hI) (fun K hK => hk.all K hK) h1 h2 (fun b o hb => h3 b o (hKr b o hb)) h4
        (fun K hK => hag K (hS.im K (hk.all K hK)) (fun b hb => (k1 b).2 (.inr (.inr ⟨(hfr K hK).1 b hb, K, hk.all K hK, hb⟩))))
        (fun H hH => hag H (hS.own H (List.mem_append_right _ hH)).1 (fun b hb => (k1 b).2 (.inr (.inl ⟨H, hH, hb⟩))))
        (fun H hH => ⟨(h5 H hH).1, fun I hI => by
          rcases List.mem_append.1 hI with hI | hI
          · exact apM I (hS.im I (hk.all I hI)) (fun b hb => (k1 b).2 (.inr (.inr ⟨(hfr I hI).1 b hb, I, hk.all I hI, hb⟩))) H hH
          · cases hI with
            | head => exact apM Kr (hS.im Kr (hi.all _ (.head _))) (fun b hb => (k1 b).2 (.inl hb)) H hH
            | tail _ hI => exact (h5 H hH).2.2 I hI, fun M hM => apM M (hS.own M (List.mem_append_right _ hM)).1 (fun b hb => (k1 b).2 (.inr (.inl ⟨M, hM, hb⟩))) H hH⟩) h6 (h7.ok h8 (Nat.le_refl _) (fun _ _ _ => rfl) (Io.refl _) (fun b hb => by
          have key : ∀ b, K2 b ≠ none → b < w'.heap.size := fun b hb => by
            cases hh : K2 b with
            | none => exact absurd hh hb
            | some o => exact h3.lt hh
          rcases hb with hb | ⟨H, hH, hb⟩ | hb
          · have := (k1 b).2 (.inl hb); exact ⟨.inl (.inl this), key b this⟩
          · refine ⟨.inl (.inr ⟨H, hH, hb⟩), ?_⟩
            cases hh : H b with
            | none => exact absurd hh hb
            | some o => exact (h5 H hH).1.lt hh
          · have : K2 b ≠ none := by
              refine (k1 b).2 (.inr ?_)
              rcases hb with hb | ⟨hB, I, hI, hb⟩
              · exact .inl hb
              · refine .inr ⟨hB, I, ?_, hb⟩
                rcases List.mem_append.1 hI with hI | hI
                · exact hk.all I hI
                · exact hi.all I hI
            exact ⟨.inl (.inl this), key b this⟩))
      exact ⟨St B (sj Kr j' h7) (Ks ++ (Kr :: imsO)) (L1 ++ L'), .inr ⟨hst, fun e => by cases e⟩, h v L1 j' h7 h9 _ w' (hFt.put (by simpa [Nat.blt_eq, Cx.m] using hlt)) hst⟩
    | panicked c => exact he
    | outgrown => exact he.elim
end calls
/-! ### Yield -/
/-- What is left of a region, seen from where rounds begin. -/
def KI (C : Cx) (ops : Array Oper) (Q : Post) (ims L : List Hp) (l : List Oper) (G : Env) : Prop := ∀ a w, Fit C.m G a → St C.B C.X ims L w → wpListIn (FW C.R) 0 C.P ops Q l a w
section ki
variable {C : Cx} {Q : Post} {ops : Array Oper} {ims L : List Hp} {G : Env} {rest : List Oper} {d ty : Nat} {pos : String} {af : Array Edge}
theorem kc_regI {id : Nat} {l : List Oper} (h : KI C l.toArray Q ims L l G) : KC C Q ims L (.region id l.toArray false) G := fun a w hf hs => wpIn_region_lit (h a w hf hs)
theorem ki_nil (h : KQ C ims L G (Q .normal)) : KI C ops Q ims L [] G := fun a w hf hs => h a w hf hs
theorem ki_y {op : Op} {v : Value} (hd : ∀ c, op ≠ .defer c) (hr : ∀ (r : Operand → Value) w, Ev G r → St C.B C.X ims L w → (execOp r ⟨some d, op, ty, pos, af, none⟩).run C.P w = .ok (.value v) w) (h : KI C ops Q ims L rest ((d, v) :: G)) (hlt : Nat.blt d C.n = true) :
    KI C ops Q ims L (⟨some d, op, ty, pos, af, none⟩ :: rest) G := fun a w hf hs => by
  unfold wpListIn
  rw [if_pos (by simp [Region.wanted])]
  refine opIn_of hd ?_
  unfold Oper.wp
  rw [hr a.eval w hf.toEv hs]
  exact h _ w (hf.put (by simpa [Nat.blt_eq, Cx.m] using hlt)) hs
theorem ki_as {x : Operand} {v : Value} (hx : ev G x = some v) (h : KI C ops Q ims L rest ((d, v) :: G)) (hlt : Nat.blt d C.n = true := by rfl) : KI C ops Q ims L (⟨some d, .assign x, ty, pos, af, none⟩ :: rest) G :=
  ki_y (fun _ e => by cases e) (fun r w hr _ => by simp [go_sem, hr _ _ hx]) h hlt
theorem ki_ld {H : Hp} {p v : Value} {vs : List Value} {x : Operand} {T : Nat} [hT : OneC C.P T] [hi : In H ims] (hx : ev G x = some p) (hp : At H p (v :: vs)) (h : KI C ops Q ims L rest ((d, v) :: G)) (hlt : Nat.blt d C.n = true := by rfl) :
    KI C ops Q ims L (⟨some d, .load T x, ty, pos, af, none⟩ :: rest) G :=
  ki_y (fun _ e => by cases e) (fun r w hr hs => by
    have hat := hp
    obtain ⟨b, o, cs, T', fz, rfl, _⟩ := hp
    have hc : w.cell? ⟨b, o, none⟩ = some v := cell_at (hs.im H hi.mem) hat (j := 0) (u := v) rfl
    simp [go_sem, hr _ _ hx, Instr.loadAt, loadVar, OneC.run, hc]) h hlt
theorem ki_ldB {x : Operand} {T b j E : Nat} {u : Value} {cs : List Value} {F : List Value → List Hp} [hT : OneC C.P T] [hF : BoxF b cs E L F] (hx : ev G x = some (.pointer (some ⟨b, j, none⟩))) (hc : cs[j]? = some u)
    (h : KI C ops Q ims L rest ((d, u) :: G)) (hlt : Nat.blt d C.n = true := by rfl) : KI C ops Q ims L (⟨some d, .load T x, ty, pos, af, none⟩ :: rest) G :=
  ki_y (fun _ e => by cases e) (fun r w hr hs => by
    have hA := (hs.own _ (hF.u cs).mem).1 b _ (sing_self _ _)
    have hcell : w.cell? ⟨b, j, none⟩ = some u := by simp [World.cell?, hA, hc]
    simp [go_sem, hr _ _ hx, Instr.loadAt, loadVar, OneC.run, hcell]) h hlt
end ki
theorem ki_yield {P : Program} {nt : Nat} {B : World} {df : List Deferred} {Q : Post} {ops : Array Oper} {ims imsO L : List Hp} {G : Env} {rest : List Oper} {d ty l n : Nat} {pos : String} {af : Array Edge} {Kr Hx : Hp} {xs : List (List Int)}
    {J : Nat → (Nat → Prop) → World → Prop} {Jx : (Nat → Prop) → World → Prop} {hJ : ∀ n, JK (J n)} (hJx : JK Jx) {f x : Operand} {ats : Array Nat} {v : Value} (hR : Rounds P l imsO xs J Jx)
    (hf : ev G f = some (.func (.yield l) #[] #[])) (hx : ev G x = some v) (hn : n < xs.length) [hi : AllIn (Kr :: imsO) ims] [hL : In Hx L] (hv : Ints Hx v (xs.getD n []))
    (h1 : KI ⟨P, nt, B, sj Kr (J (n + 1)) (hJ _), false, df, none⟩ ops Q (Kr :: imsO) L rest ((d, .bool true) :: G)) (h2 : KI ⟨P, nt, B, sj Kr Jx hJx, false, df, none⟩ ops Q (Kr :: imsO) L rest ((d, .bool false) :: G)) (hlt : Nat.blt d nt = true := by rfl) :
    KI ⟨P, nt, B, sj Kr (J n) (hJ n), false, df, none⟩ ops Q ims L (⟨some d, .call ⟨.value f, #[x], ats⟩, ty, pos, af, none⟩ :: rest) G := fun a w hF hS => by
  unfold wpListIn
  rw [if_pos (by simp [Region.wanted])]
  obtain ⟨K2, k1, k2, _⟩ := St.restJ (hj := hJ n) (L0 := []) (L' := L) hS (hi.all _ (.head _))
  have hjw : jr Kr (J n) (dm B ims L) w := hS.j
  have hsub : ∀ M ∈ L, ∀ b o, M b = some o → K2 b = some o := fun M hM => sub_of (hS.own M hM).1 k2 (fun b hb => (k1 b).2 (.inr (.inl ⟨M, hM, hb⟩)))
  have hKr := sub_of (hS.im Kr (hi.all _ (.head _))) k2 (fun b hb => (k1 b).2 (.inl hb))
  obtain ⟨fn, tmps, assign, body, hy, hround⟩ := hR n hn _ w K2 v hjw.2 k1 k2 (hv.mono (hsub Hx hL.mem) (fun _ _ h => h))
  refine ⟨fun _ _ => trivial, ?_⟩
  rw [Oper.semAt_eq _ _ _ (fun _ e => by cases e)]
  have hrun : (execOp a.eval ⟨some d, .call ⟨.value f, #[x], ats⟩, ty, pos, af, none⟩).run P w = .ok (.round l fn tmps assign body) w := by
    simp only [execOp, resolve, hF.ev hf, Deferred.ofValue, Sem.run_bind, Sem.run_pure, Result.andThen_ok, invoke]
    simpa [hF.ev hx] using hy
  rw [hrun]
  refine ⟨fun e => (by cases e), hround.mono fun e W' he => ?_⟩
  obtain ⟨g1, g2, g3, g4, g5⟩ := he
  have fin : ∀ (j' : (Nat → Prop) → World → Prop) (hj' : JK j'), j' (fun b => Kr b ≠ none ∨ dm B ims L b) W' → St B (sj Kr j' hj') (Kr :: imsO) L W' := fun j' hj' hw => by
    have := St.afterJ (hj := hJ n) (L0 := []) (L' := L) (L1 := []) (Ks := []) (hj' := hj') (imsO := imsO) hS (fun I hI => hi.all I hI) (fun _ h => by cases h) g1 g2 (fun b o hb => g3 b o (hKr b o hb)) g4 (fun _ h => by cases h)
      (fun H hH b o hb => g3 b o (hsub H hH b o hb)) (fun _ h => by cases h) List.Pairwise.nil (hj'.ok hw (Nat.le_refl _) (fun _ _ _ => rfl) (Io.refl _) (fun b hb => by
        have hb2 : K2 b ≠ none := by
          refine (k1 b).2 ?_
          rcases hb with hb | ⟨_, h, _⟩ | hb
          · exact .inl hb
          · cases h
          · rcases hb with hb | ⟨hB, I, hI, hb⟩
            · exact .inr (.inl hb)
            · exact .inr (.inr ⟨hB, I, hi.all I hI, hb⟩)
        refine ⟨.inl ((k1 b).1 hb2), ?_⟩
        cases hh : K2 b with
        | none => exact absurd hh hb2
        | some o => exact g3.lt hh))
    simpa using this
  rcases g5 with ⟨rfl, g5⟩ | ⟨rfl, g5⟩
  · exact h1 _ W' (hF.put (by simpa [Nat.blt_eq, Cx.m] using hlt)) (fin _ (hJ _) g5)
  · exact h2 _ W' (hF.put (by simpa [Nat.blt_eq, Cx.m] using hlt)) (fin _ hJx g5)
theorem sj_eq {Kr : Hp} {J : Nat → (Nat → Prop) → World → Prop} {hJ : ∀ n, JK (J n)} {a b : Nat} (h : a = b) : sj Kr (J a) (hJ a) = sj Kr (J b) (hJ b) := by subst h; rfl
/-! ### All tuples, in order -/
def tupL : List Int → List (List Int)
  | [] => [[]]
  | d :: ds => (valsI d).flatMap (fun v => (tupL ds).map (fun r => v :: r))
theorem flat_len {A B : Type} (f : A → List B) (m : Nat) : ∀ xs : List A, (∀ x ∈ xs, (f x).length = m) → (xs.flatMap f).length = m * xs.length
  | [], _ => by simp
  | x :: xs, h => by
    rw [List.flatMap_cons, List.length_append, h x (.head _), flat_len f m xs (fun y hy => h y (.tail _ hy)), List.length_cons, Nat.mul_succ]; omega
theorem flat_at {A B : Type} (f : A → List B) (m : Nat) (da : A) (db : B) : ∀ (xs : List A) (k i : Nat), (∀ x ∈ xs, (f x).length = m) → k < xs.length → i < m → (xs.flatMap f).getD (m * k + i) db = (f (xs.getD k da)).getD i db
  | [], k, i, _, h, _ => absurd h (Nat.not_lt_zero k)
  | x :: xs, k, i, h, hk, hi => by
    have hx := h x (.head _)
    cases k with
    | zero =>
      rw [List.flatMap_cons]
      simp only [Nat.mul_zero, Nat.zero_add, List.getD_cons_zero]
      rw [List.getD_eq_getElem?_getD, List.getElem?_append_left (by omega), ← List.getD_eq_getElem?_getD]
    | succ k =>
      rw [List.flatMap_cons, List.getD_cons_succ, ← flat_at f m da db xs k i (fun y hy => h y (.tail _ hy)) (by simpa using hk) hi]
      rw [List.getD_eq_getElem?_getD, List.getElem?_append_right (by rw [hx, Nat.mul_succ]; omega), ← List.getD_eq_getElem?_getD]
      congr 1
      rw [hx, Nat.mul_succ]; omega
theorem tup_len (d : Int) (ds : List Int) : (tupL (d :: ds)).length = (tupL ds).length * (valsI d).length := by
  rw [tupL]; exact flat_len _ _ _ (fun _ _ => by simp)
theorem tup_at (d : Int) (ds : List Int) {k i : Nat} (hk : k < (valsI d).length) (hi : i < (tupL ds).length) : (tupL (d :: ds)).getD ((tupL ds).length * k + i) [] = (valsI d).getD k 0 :: (tupL ds).getD i [] := by
  rw [tupL, flat_at _ (tupL ds).length 0 [] _ k i (fun _ _ => by simp) hk hi]
  simp [List.getD_eq_getElem?_getD, hi]
end
section
/-! ### Masks -/
def maskP (p : Int → Bool) : Int := (((p 0).toNat + 2 * (p 1).toNat + 4 * (p 2).toNat + 8 * (p 3).toNat + 16 * (p 4).toNat + 32 * (p 5).toNat : Nat) : Int)
theorem val_cases {v : Int} (h : 0 ≤ v ∧ v ≤ 5) : v = 0 ∨ v = 1 ∨ v = 2 ∨ v = 3 ∨ v = 4 ∨ v = 5 := by omega
theorem maskP_in (p : Int → Bool) : 0 ≤ maskP p ∧ maskP p ≤ 63 := by
  unfold maskP
  have h : ∀ b : Bool, b.toNat ≤ 1 := fun b => by cases b <;> simp
  have := h (p 0); have := h (p 1); have := h (p 2); have := h (p 3); have := h (p 4); have := h (p 5)
  omega
theorem maskP_has {p : Int → Bool} {v : Int} (h : 0 ≤ v ∧ v ≤ 5) : hasB (maskP p) v = p v := by
  have key : ∀ b0 b1 b2 b3 b4 b5 : Bool, let n : Int := ((b0.toNat + 2 * b1.toNat + 4 * b2.toNat + 8 * b3.toNat + 16 * b4.toNat + 32 * b5.toNat : Nat) : Int); hasB n 0 = b0 ∧ hasB n 1 = b1 ∧ hasB n 2 = b2 ∧ hasB n 3 = b3 ∧ hasB n 4 = b4 ∧ hasB n 5 = b5 := by decide +kernel
  obtain ⟨h0, h1, h2, h3, h4, h5⟩ := key (p 0) (p 1) (p 2) (p 3) (p 4) (p 5)
  unfold maskP
  rcases val_cases h with rfl | rfl | rfl | rfl | rfl | rfl <;> assumption
theorem maskP_congr {p q : Int → Bool} (h : ∀ v, 0 ≤ v ∧ v ≤ 5 → p v = q v) : maskP p = maskP q := by
  unfold maskP; rw [h 0 (by omega), h 1 (by omega), h 2 (by omega), h 3 (by omega), h 4 (by omega), h 5 (by omega)]
theorem dom_mask {d : Int} (h : 0 ≤ d ∧ d ≤ 63) : maskP (hasB d) = d :=
  fin_nat (n := 64) (p := fun d => maskP (hasB d) = d) (by decide +kernel) h.1 (by omega)
theorem dom_ext {d e : Int} (hd : 0 ≤ d ∧ d ≤ 63) (he : 0 ≤ e ∧ e ≤ 63) (h : ∀ v, 0 ≤ v ∧ v ≤ 5 → hasB d v = hasB e v) : d = e := by
  rw [← dom_mask hd, ← dom_mask he]; exact maskP_congr h
theorem ior_has {d : Int} (hd : 0 ≤ d ∧ d ≤ 63) {v : Int} (hv : 0 ≤ v ∧ v ≤ 5) : ior d (ishl 1 v) = maskP (fun u => hasB d u || decide (u = v)) := by
  have key : ∀ i, i < 64 → ∀ j, j < 6 → ior ((i : Nat) : Int) (ishl 1 ((j : Nat) : Int)) = maskP (fun u => hasB ((i : Nat) : Int) u || decide (u = ((j : Nat) : Int))) := by decide +kernel
  exact fin_nat (n := 64) (p := fun d => ior d (ishl 1 v) = maskP (fun u => hasB d u || decide (u = v))) (fun i hi => fin_nat (n := 6) (p := fun v => ior ((i : Nat) : Int) (ishl 1 v) = maskP (fun u => hasB ((i : Nat) : Int) u || decide (u = v))) (fun j hj => key i hi j hj) hv.1 (by omega)) hd.1 (by omega)
theorem add_has {d : Int} (hd : 0 ≤ d ∧ d ≤ 63) {v : Int} (hv : 0 ≤ v ∧ v ≤ 5) (h : hasB d v = false) : d + ishl 1 v = maskP (fun u => hasB d u || decide (u = v)) := by
  have key : ∀ i, i < 64 → ∀ j, j < 6 → hasB ((i : Nat) : Int) ((j : Nat) : Int) = false → ((i : Nat) : Int) + (ishl 1 ((j : Nat) : Int)) = maskP (fun u => hasB ((i : Nat) : Int) u || decide (u = ((j : Nat) : Int))) := by decide +kernel
  exact fin_nat (n := 64) (p := fun d => hasB d v = false → d + (ishl 1 v) = maskP (fun u => hasB d u || decide (u = v))) (fun i hi => fin_nat (n := 6) (p := fun v => hasB ((i : Nat) : Int) v = false → ((i : Nat) : Int) + (ishl 1 v) = maskP (fun u => hasB ((i : Nat) : Int) u || decide (u = v))) (fun j hj => key i hi j hj) hv.1 (by omega)) hd.1 (by omega) h
theorem sub_le {d e : Int} (hd : 0 ≤ d ∧ d ≤ 63) (he : 0 ≤ e ∧ e ≤ 63) (h : ∀ v, 0 ≤ v ∧ v ≤ 5 → hasB e v = true → hasB d v = true) : e ≤ d := by
  rw [← dom_mask hd, ← dom_mask he]
  unfold maskP
  have k : ∀ v, 0 ≤ v ∧ v ≤ 5 → (hasB e v).toNat ≤ (hasB d v).toNat := fun v hv => by
    have := h v hv
    cases h1 : hasB e v with
    | false => simp
    | true => rw [this h1]; simp
  have := k 0 (by omega); have := k 1 (by omega); have := k 2 (by omega); have := k 3 (by omega); have := k 4 (by omega); have := k 5 (by omega)
  omega
theorem mem_valsI {d v : Int} : v ∈ valsI d ↔ (0 ≤ v ∧ v ≤ 5) ∧ hasB d v = true := by
  simp only [valsI, membersTo, natsI, List.mem_map, List.mem_filter, List.mem_range]
  constructor
  · rintro ⟨i, ⟨h1, h2⟩, rfl⟩; exact ⟨by omega, h2⟩
  · rintro ⟨h1, h2⟩
    obtain ⟨i, rfl⟩ := Int.eq_ofNat_of_zero_le h1.1
    exact ⟨i, ⟨by omega, h2⟩, rfl⟩
theorem valsI_sub {d e : Int} (h : ∀ v, 0 ≤ v ∧ v ≤ 5 → hasB e v = true → hasB d v = true) : valsI e = (valsI d).filter (fun v => hasB e v) := by
  simp only [valsI, membersTo, natsI, List.filter_map, List.filter_filter]
  congr 1
  refine List.filter_congr fun i hi => ?_
  have := h (i : Int) (by have := List.mem_range.1 hi; omega)
  simp only [Function.comp]
  cases h1 : hasB e (i : Int) with
  | false => simp
  | true => rw [this h1]; rfl
theorem valsI_0 : valsI 0 = [] := by decide +kernel
theorem valsI_ne {d : Int} (hd : 0 ≤ d ∧ d ≤ 63) (h : d ≠ 0) : valsI d ≠ [] := by
  have key : ∀ i, i < 64 → i ≠ 0 → valsI ((i : Nat) : Int) ≠ [] := by decide +kernel
  exact fin_nat (n := 64) (p := fun d => d ≠ 0 → valsI d ≠ []) (fun i hi h0 => key i hi (fun e => h0 (by rw [e]; rfl))) hd.1 (by omega) h
theorem valsI_one {v : Int} (h : 0 ≤ v ∧ v ≤ 5) : valsI (ishl 1 v) = [v] :=
  fin_nat (n := 6) (p := fun v => valsI (ishl 1 v) = [v]) (by decide +kernel) h.1 (by omega)
/-! ### Boxes -/
def DomV (ds : List Int) : Prop := ∀ d ∈ ds, (0 : Int) ≤ d ∧ d ≤ 63
theorem DomV.at {ds : List Int} (h : DomV ds) {i : Nat} (hi : i < ds.length) : (0 : Int) ≤ ds.getD i 0 ∧ ds.getD i 0 ≤ 63 := h _ (getD_mem hi)
def Box (ds x : List Int) : Prop := x.length = ds.length ∧ ∀ i, i < ds.length → x.getD i 0 ∈ valsI (ds.getD i 0)
theorem box_cons {d : Int} {ds x : List Int} : Box (d :: ds) x ↔ ∃ v y, x = v :: y ∧ v ∈ valsI d ∧ Box ds y := by
  constructor
  · rintro ⟨hl, h⟩
    cases x with
    | nil => simp at hl
    | cons v y =>
      refine ⟨v, y, rfl, by simpa using h 0 (by simp), by simpa using hl, fun i hi => ?_⟩
      simpa using h (i + 1) (by simpa using hi)
  · rintro ⟨v, y, rfl, hv, hl, h⟩
    refine ⟨by simpa using hl, fun i hi => ?_⟩
    cases i with
    | zero => simpa using hv
    | succ i => simpa using h i (by simpa using hi)
theorem mem_tupL {ds : List Int} : ∀ {x : List Int}, x ∈ tupL ds ↔ Box ds x := by
  induction ds with
  | nil => intro x; simp [tupL, Box]
  | cons d ds ih =>
    intro x
    rw [box_cons]
    simp only [tupL, List.mem_flatMap, List.mem_map]
    constructor
    · rintro ⟨v, hv, y, hy, rfl⟩; exact ⟨v, y, rfl, hv, ih.1 hy⟩
    · rintro ⟨v, y, rfl, hv, hy⟩; exact ⟨v, hv, y, ih.2 hy, rfl⟩
theorem Box.vals {ds x : List Int} (h : Box ds x) : Vals x := fun v hv => by
  obtain ⟨i, hi, rfl⟩ := List.getElem_of_mem hv
  have := h.2 i (by rw [← h.1]; exact hi)
  rw [show x[i] = x.getD i 0 from by simp [List.getD, hi]]
  exact valsI_mem this
def boxB : List Int → List Int → Bool
  | [], [] => true
  | d :: ds, v :: x => hasB d v && boxB ds x
  | _, _ => false
theorem boxB_iff {ds : List Int} : ∀ {x : List Int}, Vals x → (boxB ds x = true ↔ Box ds x) := by
  induction ds with
  | nil => intro x _; cases x <;> simp [boxB, Box]
  | cons d ds ih =>
    intro x hx
    rw [box_cons]
    cases x with
    | nil => simp [boxB]
    | cons v y =>
      simp only [boxB, Bool.and_eq_true, List.cons.injEq]
      have hy : Vals y := fun u hu => hx u (.tail _ hu)
      constructor
      · rintro ⟨h1, h2⟩; exact ⟨v, y, ⟨rfl, rfl⟩, mem_valsI.2 ⟨hx v (.head _), h1⟩, (ih hy).1 h2⟩
      · rintro ⟨v', y', ⟨rfl, rfl⟩, h1, h2⟩; exact ⟨(mem_valsI.1 h1).2, (ih hy).2 h2⟩
/-- es lies in ds. -/
def SubD (es ds : List Int) : Prop := es.length = ds.length ∧ ∀ i, i < ds.length → ∀ v, 0 ≤ v ∧ v ≤ 5 → hasB (es.getD i 0) v = true → hasB (ds.getD i 0) v = true
theorem SubD.refl (ds : List Int) : SubD ds ds := ⟨rfl, fun _ _ _ _ h => h⟩
theorem SubD.trans {a b c : List Int} (h : SubD a b) (k : SubD b c) : SubD a c := ⟨h.1.trans k.1, fun i hi v hv hh => k.2 i hi v hv (h.2 i (by rw [k.1]; exact hi) v hv hh)⟩
theorem flat_filter {A B : Type} {f g : A → List B} {p : B → Bool} {q : A → Bool} : ∀ {xs : List A}, (∀ x ∈ xs, (f x).filter p = if q x = true then g x else []) → (xs.flatMap f).filter p = (xs.filter q).flatMap g
  | [], _ => rfl
  | x :: xs, h => by
    rw [List.flatMap_cons, List.filter_append, flat_filter (fun y hy => h y (.tail _ hy)), h x (.head _)]
    cases hq : q x with
    | true => rw [List.filter_cons, if_pos hq, List.flatMap_cons]; rfl
    | false => rw [List.filter_cons, hq]; rfl
theorem tupL_sub {ds : List Int} : ∀ {es : List Int}, SubD es ds → tupL es = (tupL ds).filter (boxB es) := by
  induction ds with
  | nil => intro es h; cases es with | nil => rfl | cons e es => simp [SubD] at h
  | cons d ds ih =>
    intro es h
    cases es with
    | nil => simp [SubD] at h
    | cons e es =>
      have h1 : SubD es ds := ⟨by simpa using h.1, fun i hi v hv hh => by simpa using h.2 (i + 1) (by simpa using hi) v hv (by simpa using hh)⟩
      have h0 := valsI_sub (d := d) (e := e) (fun v hv hh => by simpa using h.2 0 (by simp) v hv (by simpa using hh))
      simp only [tupL]
      rw [flat_filter (q := fun v => hasB e v) (g := fun v => (tupL es).map (fun r => v :: r)) (fun v hv => ?_), ← h0]
      rw [List.filter_map]
      have hc : (boxB (e :: es) ∘ fun r => v :: r) = fun r => hasB e v && boxB es r := rfl
      rw [hc]
      cases hh : hasB e v with
      | true => simp only [Bool.true_and, if_true]; rw [ih h1]
      | false => simp
/-! ### One constraint -/
def supp (c : Con) (T : List (List Int)) (j : Nat) : Int := maskP (fun v => T.any (fun t => satB c t && decide (v = t.getD j 0)))
def suppV (c : Con) (T : List (List Int)) : List Int := (List.range c.vars.length).map (supp c T)
theorem suppV_len (c : Con) (T : List (List Int)) : (suppV c T).length = c.vars.length := by simp [suppV]
theorem suppV_at {c : Con} {T : List (List Int)} {j : Nat} (h : j < c.vars.length) : (suppV c T).getD j 0 = supp c T j := by simp [suppV, List.getD, h]
theorem supp_has {c : Con} {T : List (List Int)} {j : Nat} {v : Int} (h : 0 ≤ v ∧ v ≤ 5) : hasB (supp c T j) v = true ↔ ∃ t ∈ T, satB c t = true ∧ v = t.getD j 0 := by
  unfold supp
  rw [maskP_has h, List.any_eq_true]
  simp only [Bool.and_eq_true, decide_eq_true_eq]
theorem supp_no {c : Con} {T : List (List Int)} {t : List Int} (h : satB c t = false) (j : Nat) : supp c (T ++ [t]) j = supp c T j := by
  unfold supp; refine maskP_congr fun v _ => ?_
  rw [List.any_append]; simp [h]
theorem suppV_no {c : Con} {T : List (List Int)} {t : List Int} (h : satB c t = false) : suppV c (T ++ [t]) = suppV c T := by
  unfold suppV; exact List.map_congr_left fun j _ => supp_no h j
theorem supp_yes {c : Con} {T : List (List Int)} {t : List Int} (h : satB c t = true) {j : Nat} (hv : 0 ≤ t.getD j 0 ∧ t.getD j 0 ≤ 5) : supp c (T ++ [t]) j = maskP (fun u => hasB (supp c T j) u || decide (u = t.getD j 0)) := by
  refine maskP_congr fun v hv => ?_
  unfold supp
  rw [maskP_has hv, List.any_append]; simp [h]
theorem supp_or {c : Con} {T : List (List Int)} {t : List Int} (h : satB c t = true) {j : Nat} (hv : 0 ≤ t.getD j 0 ∧ t.getD j 0 ≤ 5) : ior (supp c T j) (ishl 1 (t.getD j 0)) = supp c (T ++ [t]) j := by
  rw [supp_yes h hv]; exact ior_has (maskP_in _) hv
theorem supp_addF {c : Con} {T : List (List Int)} {t : List Int} (h : satB c t = true) {j : Nat} (hv : 0 ≤ t.getD j 0 ∧ t.getD j 0 ≤ 5) (hh : hasB (supp c T j) (t.getD j 0) = false) : supp c T j + ishl 1 (t.getD j 0) = supp c (T ++ [t]) j := by
  rw [supp_yes h hv]; exact add_has (maskP_in _) hv hh
theorem supp_addT {c : Con} {T : List (List Int)} {t : List Int} (h : satB c t = true) {j : Nat} (hv : 0 ≤ t.getD j 0 ∧ t.getD j 0 ≤ 5) (hh : hasB (supp c T j) (t.getD j 0) = true) : supp c T j = supp c (T ++ [t]) j := by
  rw [supp_yes h hv]
  refine dom_ext (maskP_in _) (maskP_in _) fun v hv' => ?_
  rw [maskP_has (p := fun u => hasB (supp c T j) u || decide (u = t.getD j 0)) hv']
  by_cases e : v = t.getD j 0
  · rw [e, hh]; rfl
  · rw [decide_eq_false e, Bool.or_false]
/-- Between two tuples: the first j positions have the new one. -/
def suppM (c : Con) (T : List (List Int)) (t : List Int) (j : Nat) : List Int := (List.range c.vars.length).map (fun i => if i < j then supp c (T ++ [t]) i else supp c T i)
theorem suppM_0 (c : Con) (T : List (List Int)) (t : List Int) : suppM c T t 0 = suppV c T := by simp [suppM, suppV]
theorem suppM_len (c : Con) (T : List (List Int)) (t : List Int) (j : Nat) : (suppM c T t j).length = c.vars.length := by simp [suppM]
theorem suppM_all (c : Con) (T : List (List Int)) (t : List Int) {j : Nat} (h : c.vars.length ≤ j) : suppM c T t j = suppV c (T ++ [t]) := by
  unfold suppM suppV
  refine List.map_congr_left fun i hi => ?_
  rw [if_pos (by have := List.mem_range.1 hi; omega)]
theorem suppM_at {c : Con} {T : List (List Int)} {t : List Int} {j : Nat} (h : j < c.vars.length) : (suppM c T t j).getD j 0 = supp c T j := by simp [suppM, List.getD, h]
theorem suppM_set {c : Con} {T : List (List Int)} {t : List Int} {j : Nat} (h : j < c.vars.length) {y : Int} (e : y = supp c (T ++ [t]) j) : (suppM c T t j).set j y = suppM c T t (j + 1) := by
  subst e
  refine List.ext_getElem (by simp [suppM]) fun i h1 h2 => ?_
  simp only [suppM, List.getElem_set, List.getElem_map, List.getElem_range]
  by_cases e : j = i
  · subst e; simp
  · rw [if_neg e]
    by_cases h3 : i < j
    · rw [if_pos h3, if_pos (by omega)]
    · rw [if_neg h3, if_neg (by omega)]
theorem suppM_same {c : Con} {T : List (List Int)} {t : List Int} {j : Nat} (h : j < c.vars.length) (e : supp c T j = supp c (T ++ [t]) j) : suppM c T t j = suppM c T t (j + 1) := by
  rw [← suppM_set h rfl, ← e]
  refine List.ext_getElem (by simp) fun i h1 h2 => ?_
  rw [List.getElem_set]
  split
  · rename_i e; subst e; simp [suppM]
  · rfl
def filtTo (c : Con) (ds L : List Int) (k : Nat) : List Int := (List.range k).foldl (fun o j => o.set (c.vars.getD j 0).toNat (L.getD j 0)) ds
theorem filtTo_succ (c : Con) (ds L : List Int) (k : Nat) : filtTo c ds L (k + 1) = (filtTo c ds L k).set (c.vars.getD k 0).toNat (L.getD k 0) := by
  simp [filtTo, List.range_succ]
theorem filtTo_len (c : Con) (ds L : List Int) : ∀ k, (filtTo c ds L k).length = ds.length
  | 0 => rfl
  | k + 1 => by rw [filtTo_succ, List.length_set, filtTo_len c ds L k]
def tups (c : Con) (ds : List Int) : List (List Int) := tupL (wordL c.vars ds)
def filtL (c : Con) (ds : List Int) : List Int := filtTo c ds (suppV c (tups c ds)) c.vars.length
theorem filtL_len (c : Con) (ds : List Int) : (filtL c ds).length = ds.length := filtTo_len _ _ _ _
theorem filtTo_no {c : Con} {ds L : List Int} {i : Nat} : ∀ k, (∀ j, j < k → (c.vars.getD j 0).toNat ≠ i) → (filtTo c ds L k).getD i 0 = ds.getD i 0
  | 0, _ => rfl
  | k + 1, h => by
    rw [filtTo_succ]
    have h0 := h k (by omega)
    rw [List.getD_eq_getElem?_getD, List.getElem?_set_ne h0, ← List.getD_eq_getElem?_getD]
    exact filtTo_no k (fun j hj => h j (by omega))
theorem filtTo_at {c : Con} {ds L : List Int} {i j : Nat} (hi : i < ds.length) (e : (c.vars.getD j 0).toNat = i) : ∀ k, j < k → (∀ j', j' < k → (c.vars.getD j' 0).toNat = i → j' = j) → (filtTo c ds L k).getD i 0 = L.getD j 0
  | 0, h, _ => absurd h (Nat.not_lt_zero _)
  | k + 1, h, hu => by
    rw [filtTo_succ]
    by_cases hk : j = k
    · subst hk
      rw [e, List.getD_eq_getElem?_getD, List.getElem?_set_self (by rw [filtTo_len]; exact hi)]; rfl
    · have h0 : (c.vars.getD k 0).toNat ≠ i := fun e' => hk (hu k (by omega) e').symm
      rw [List.getD_eq_getElem?_getD, List.getElem?_set_ne h0, ← List.getD_eq_getElem?_getD]
      exact filtTo_at hi e k (by omega) (fun j' hj' => hu j' (by omega))
theorem ConOk.inj {c : Con} {n : Nat} (h : ConOk c n) {i j : Nat} (hi : i < c.vars.length) (hj : j < c.vars.length) (e : (c.vars.getD i 0).toNat = (c.vars.getD j 0).toNat) : i = j := by
  have hv := h.v
  simp only [validConB, Bool.and_eq_true, distinctB, decide_eq_true_eq] at hv
  have hn := hv.1.2
  have h1 := h.at hi; have h2 := h.at hj
  have e2 : c.vars.getD i 0 = c.vars.getD j 0 := by omega
  have e3 : c.vars[i] = c.vars[j] := by simpa [List.getD, hi, hj] using e2
  have hp := List.pairwise_iff_getElem.1 hn
  rcases Nat.lt_trichotomy i j with h3 | h3 | h3
  · exact absurd e3 (hp i j hi hj h3)
  · exact h3
  · exact absurd e3.symm (hp j i hj hi h3)
section filt
variable {c : Con} {n : Nat} {ds : List Int}
/-- What a filtered domain is. -/
theorem filt_cases (hc : ConOk c n) (hl : ds.length = n) {i : Nat} (hi : i < n) : (∃ j, j < c.vars.length ∧ (c.vars.getD j 0).toNat = i ∧ (filtL c ds).getD i 0 = supp c (tups c ds) j) ∨ ((∀ j, j < c.vars.length → (c.vars.getD j 0).toNat ≠ i) ∧ (filtL c ds).getD i 0 = ds.getD i 0) := by
  by_cases h : ∃ j, j < c.vars.length ∧ (c.vars.getD j 0).toNat = i
  · obtain ⟨j, hj, e⟩ := h
    refine .inl ⟨j, hj, e, ?_⟩
    rw [← suppV_at hj]
    exact filtTo_at (by omega) e _ hj (fun j' hj' e' => hc.inj hj' hj (by omega))
  · have h' : ∀ j, j < c.vars.length → (c.vars.getD j 0).toNat ≠ i := fun j hj e => h ⟨j, hj, e⟩
    exact .inr ⟨h', filtTo_no _ h'⟩
theorem word_at {vs ds : List Int} {j : Nat} (h : j < vs.length) : (wordL vs ds).getD j 0 = ds.getD (vs.getD j 0).toNat 0 := by simp [wordL, List.getD, h]
theorem filt_sub (hc : ConOk c n) (hl : ds.length = n) : SubD (filtL c ds) ds := ⟨filtL_len c ds, fun i hi v hv h => by
  rcases filt_cases hc hl (i := i) (by omega) with ⟨j, hj, e, e2⟩ | ⟨_, e2⟩
  · rw [e2] at h
    obtain ⟨t, ht, _, rfl⟩ := (supp_has hv).1 h
    have hb := mem_tupL.1 ht
    have := hb.2 j (by simpa [wordL] using hj)
    rw [word_at hj, e] at this
    exact (mem_valsI.1 this).2
  · rw [e2] at h; exact h⟩
theorem filt_dom (hc : ConOk c n) (hl : ds.length = n) (hd : DomV ds) : DomV (filtL c ds) := fun d hm => by
  obtain ⟨i, hi, rfl⟩ := List.getElem_of_mem hm
  rw [show (filtL c ds)[i] = (filtL c ds).getD i 0 from by simp [List.getD, hi]]
  rw [filtL_len] at hi
  rcases filt_cases hc hl (i := i) (by omega) with ⟨j, hj, e, e2⟩ | ⟨_, e2⟩
  · rw [e2]; exact maskP_in _
  · rw [e2]; exact hd.at hi
theorem box_word {x : List Int} (hc : ConOk c n) (hl : ds.length = n) (h : Box ds x) : Box (wordL c.vars ds) (wordL c.vars x) := ⟨by simp [wordL], fun j hj => by
  have hj : j < c.vars.length := by simpa [wordL] using hj
  rw [word_at hj, word_at hj]
  exact h.2 _ (by have := hc.at hj; omega)⟩
theorem filt_sound {x : List Int} (hc : ConOk c n) (hl : ds.length = n) (h : Box ds x) (hs : conAt x c = true) : Box (filtL c ds) x := ⟨by rw [filtL_len]; exact h.1, fun i hi => by
  rw [filtL_len] at hi
  rcases filt_cases hc hl (i := i) (by omega) with ⟨j, hj, e, e2⟩ | ⟨_, e2⟩
  · rw [e2, mem_valsI]
    have hv := valsI_mem (h.2 i hi)
    refine ⟨hv, (supp_has hv).2 ⟨wordL c.vars x, mem_tupL.2 (box_word hc hl h), hs, ?_⟩⟩
    rw [word_at hj, e]
  · rw [e2]; exact h.2 i hi⟩
end filt
/-! ### All constraints, until nothing changes -/
def sumN (ds : List Int) : Nat := (ds.map Int.toNat).sum
theorem sumN_le : ∀ {es ds : List Int}, es.length = ds.length → (∀ i, i < ds.length → es.getD i 0 ≤ ds.getD i 0) → sumN es ≤ sumN ds
  | [], [], _, _ => Nat.le_refl _
  | [], _ :: _, h, _ => by simp at h
  | _ :: _, [], h, _ => by simp at h
  | e :: es, d :: ds, hl, h => by
    have h0 := h 0 (by simp)
    have ih := sumN_le (es := es) (ds := ds) (by simpa using hl) (fun i hi => by simpa using h (i + 1) (by simpa using hi))
    simp only [sumN, List.map_cons, List.sum_cons] at *
    simp at h0
    omega
theorem sumN_lt : ∀ {es ds : List Int}, es.length = ds.length → (∀ d ∈ es, (0 : Int) ≤ d) → (∀ i, i < ds.length → es.getD i 0 ≤ ds.getD i 0) → es ≠ ds → sumN es < sumN ds
  | [], [], _, _, _, h => absurd rfl h
  | [], _ :: _, h, _, _, _ => by simp at h
  | _ :: _, [], h, _, _, _ => by simp at h
  | e :: es, d :: ds, hl, hp, h, hne => by
    have h0 := h 0 (by simp)
    have hl' : es.length = ds.length := by simpa using hl
    have h' : ∀ i, i < ds.length → es.getD i 0 ≤ ds.getD i 0 := fun i hi => by simpa using h (i + 1) (by simpa using hi)
    have ih := sumN_le hl' h'
    have he := hp e (.head _)
    simp only [sumN, List.map_cons, List.sum_cons] at *
    simp at h0
    by_cases e1 : e = d
    · have := sumN_lt hl' (fun d hd => hp d (.tail _ hd)) h' (fun e2 => hne (by rw [e1, e2]))
      simp only [sumN] at this
      omega
    · omega
theorem SubD.sum {es ds : List Int} (h : SubD es ds) (he : DomV es) (hd : DomV ds) : sumN es ≤ sumN ds :=
  sumN_le h.1 fun i hi => sub_le (hd.at hi) (he.at (by rw [h.1]; exact hi)) (h.2 i hi)
theorem SubD.lt {es ds : List Int} (h : SubD es ds) (he : DomV es) (hd : DomV ds) (hne : es ≠ ds) : sumN es < sumN ds :=
  sumN_lt h.1 (fun d hm => (he d hm).1) (fun i hi => sub_le (hd.at hi) (he.at (by rw [h.1]; exact hi)) (h.2 i hi)) hne
def filtC (cs : List Con) (ds : List Int) : List Int := cs.foldl (fun d c => filtL c d) ds
def filtA (m : Mod) (ds : List Int) : List Int := filtC m.cons ds
def consB (cs : List Con) (ds : List Int) : Bool := cs.all (fun c => decide (filtL c ds = ds))
def zerosL (n : Nat) : List Int := List.replicate n 0
def prop (m : Mod) (ds : List Int) : List Int :=
  if ds.contains 0 = true then zerosL ds.length else if filtA m ds = ds then ds else if h : sumN (filtA m ds) < sumN ds then prop m (filtA m ds) else ds
termination_by sumN ds
/-- Domains of a model's variables. -/
structure DOk (n : Nat) (ds : List Int) : Prop where
  l : ds.length = n
  d : DomV ds
theorem filtC_ok {cs : List Con} {n : Nat} (hc : ∀ c ∈ cs, ConOk c n) : ∀ {ds : List Int}, DOk n ds → DOk n (filtC cs ds) ∧ SubD (filtC cs ds) ds := by
  induction cs with
  | nil => intro ds h; exact ⟨h, SubD.refl _⟩
  | cons c cs ih =>
    intro ds h
    have h0 := hc c (.head _)
    have h1 : DOk n (filtL c ds) := ⟨(filtL_len c ds).trans h.l, filt_dom h0 h.l h.d⟩
    obtain ⟨h2, h3⟩ := ih (fun c hm => hc c (.tail _ hm)) h1
    exact ⟨h2, h3.trans (filt_sub h0 h.l)⟩
theorem filtC_fix {cs : List Con} {n : Nat} (hc : ∀ c ∈ cs, ConOk c n) : ∀ {ds : List Int}, DOk n ds → (filtC cs ds = ds ↔ consB cs ds = true) := by
  induction cs with
  | nil => intro ds h; simp [filtC, consB]
  | cons c cs ih =>
    intro ds h
    have h0 := hc c (.head _)
    have hcs : ∀ c ∈ cs, ConOk c n := fun c hm => hc c (.tail _ hm)
    have h1 : DOk n (filtL c ds) := ⟨(filtL_len c ds).trans h.l, filt_dom h0 h.l h.d⟩
    have hs := filt_sub h0 h.l
    have h2 := filtC_ok hcs h1
    simp only [consB, List.all_cons, Bool.and_eq_true, decide_eq_true_eq]
    constructor
    · intro e
      have e1 : filtC cs (filtL c ds) = ds := e
      have e2 : filtL c ds = ds := by
        by_cases hne : filtL c ds = ds
        · exact hne
        · have a := hs.lt h1.d h.d hne
          have b := h2.2.sum h2.1.d h1.d
          rw [e1] at b; omega
      rw [e2] at e1
      exact ⟨e2, (ih hcs h).1 e1⟩
    · rintro ⟨e1, e2⟩
      show filtC cs (filtL c ds) = ds
      rw [e1]; exact (ih hcs h).2 e2
section props
variable {m : Mod} {ds : List Int}
theorem MOk.cons (hM : MOk m) : ∀ c ∈ m.cons, ConOk c m.doms.length := fun c hc => ⟨hM.cm hc⟩
theorem MOk.dok (hM : MOk m) : DOk m.doms.length m.doms := ⟨rfl, fun d hd => by
  obtain ⟨i, hi, rfl⟩ := List.getElem_of_mem hd
  rw [show m.doms[i] = m.doms.getD i 0 from by simp [List.getD, hi]]
  exact hM.d hi⟩
theorem filtA_ok (hM : MOk m) (h : DOk m.doms.length ds) : DOk m.doms.length (filtA m ds) ∧ SubD (filtA m ds) ds := filtC_ok hM.cons h
theorem filtA_lt (hM : MOk m) (h : DOk m.doms.length ds) (hne : filtA m ds ≠ ds) : sumN (filtA m ds) < sumN ds :=
  (filtA_ok hM h).2.lt (filtA_ok hM h).1.d h.d hne
theorem filtA_fix (hM : MOk m) (h : DOk m.doms.length ds) : filtA m ds = ds ↔ consB m.cons ds = true := filtC_fix hM.cons h
theorem prop_0 (h : ds.contains 0 = true) : prop m ds = zerosL ds.length := by rw [prop, if_pos h]
theorem prop_fix (h : ds.contains 0 = false) (e : filtA m ds = ds) : prop m ds = ds := by rw [prop, if_neg (by rw [h]; simp), if_pos e]
theorem prop_step (hM : MOk m) (hd : DOk m.doms.length ds) (h : ds.contains 0 = false) (e : filtA m ds ≠ ds) : prop m (filtA m ds) = prop m ds := by
  rw [prop.eq_1 m ds, if_neg (by rw [h]; simp), if_neg e, dif_pos (filtA_lt hM hd e)]
theorem zerosL_ok (n : Nat) : DOk n (zerosL n) := ⟨by simp [zerosL], fun d hd => by
  simp only [zerosL, List.mem_replicate] at hd
  omega⟩
theorem zerosL_sub (ds : List Int) : SubD (zerosL ds.length) ds := ⟨by simp [zerosL], fun i hi v hv h => by
  have : (zerosL ds.length).getD i 0 = 0 := by simp [zerosL, List.getD, hi]
  rw [this] at h
  have h2 : v ∈ valsI 0 := mem_valsI.2 ⟨hv, h⟩
  rw [valsI_0] at h2; cases h2⟩
theorem tupL_0 {ds : List Int} (h : ds.contains 0 = true) : tupL ds = [] := by
  cases e : tupL ds with
  | nil => rfl
  | cons x xs =>
    exfalso
    have hb := mem_tupL.1 (show x ∈ tupL ds by rw [e]; exact .head _)
    obtain ⟨i, hi, h0⟩ := List.getElem_of_mem (List.contains_iff_mem.1 h)
    have := hb.2 i hi
    rw [show ds.getD i 0 = ds[i] from by simp [List.getD, hi], h0, valsI_0] at this
    cases this
def solT (m : Mod) (ds : List Int) : List (List Int) := (tupL ds).filter (metB m)
theorem solT_filt (hM : MOk m) {c : Con} (hc : c ∈ m.cons) (hd : DOk m.doms.length ds) : solT m (filtL c ds) = solT m ds := by
  unfold solT
  rw [tupL_sub (filt_sub (hM.cons c hc) hd.l), List.filter_filter]
  refine List.filter_congr fun x hx => ?_
  have hb := mem_tupL.1 hx
  cases h : metB m x with
  | false => simp
  | true =>
    have := (boxB_iff hb.vals).2 (filt_sound (hM.cons c hc) hd.l hb (List.all_eq_true.1 h c hc))
    rw [this]; rfl
theorem solT_filtC (hM : MOk m) : ∀ {cs : List Con}, (∀ c ∈ cs, c ∈ m.cons) → ∀ {ds : List Int}, DOk m.doms.length ds → solT m (filtC cs ds) = solT m ds
  | [], _, _, _ => rfl
  | c :: cs, h, ds, hd => by
    have h0 := hM.cons c (h c (.head _))
    have h1 : DOk m.doms.length (filtL c ds) := ⟨(filtL_len c ds).trans hd.l, filt_dom h0 hd.l hd.d⟩
    exact (solT_filtC hM (cs := cs) (fun c hm => h c (.tail _ hm)) h1).trans (solT_filt hM (h c (.head _)) hd)
/-- What propagation gives: valid domains, within the old ones, with the same solutions; either no domain is empty and no constraint changes them, or all are. -/
structure PropOk (m : Mod) (ds es : List Int) : Prop where
  ok : DOk m.doms.length es
  sub : SubD es ds
  sol : solT m es = solT m ds
  fix : es.contains 0 = true ∨ consB m.cons es = true
theorem prop_ok (hM : MOk m) : ∀ (k : Nat) {ds : List Int}, sumN ds = k → DOk m.doms.length ds → PropOk m ds (prop m ds) := by
  intro k
  induction k using Nat.strongRecOn with
  | _ k ih =>
    intro ds hk hd
    cases h0 : ds.contains 0 with
    | true =>
      rw [prop_0 h0, hd.l]
      have hz := zerosL_ok m.doms.length
      have hn := hM.n
      have hc : (zerosL m.doms.length).contains 0 = true := by
        rw [List.contains_iff_mem]; simp only [zerosL, List.mem_replicate]; exact ⟨by omega, trivial⟩
      exact ⟨hz, hd.l ▸ zerosL_sub ds, by unfold solT; rw [tupL_0 h0, tupL_0 hc], .inl hc⟩
    | false =>
      by_cases e : filtA m ds = ds
      · rw [prop_fix h0 e]; exact ⟨hd, SubD.refl _, rfl, .inr ((filtA_fix hM hd).1 e)⟩
      · rw [← prop_step hM hd h0 e]
        have hf := filtA_ok hM hd
        have := ih _ (hk ▸ filtA_lt hM hd e) rfl hf.1
        exact ⟨this.ok, this.sub.trans hf.2, this.sol.trans (solT_filtC hM (fun _ h => h) hd), this.fix⟩
theorem propOk (hM : MOk m) {ds : List Int} (hd : DOk m.doms.length ds) : PropOk m ds (prop m ds) := prop_ok hM _ rfl hd
/-! ### All solutions -/
/-! Branching. -/
theorem set_ok {i : Nat} {v : Int} (hd : DOk m.doms.length ds) (hv : 0 ≤ v ∧ v ≤ 5) : DOk m.doms.length (ds.set i (ishl 1 v)) := ⟨by rw [List.length_set]; exact hd.l, fun d hm => by
  rcases List.mem_or_eq_of_mem_set hm with h | h
  · exact hd.d d h
  · have := shl_le hv; omega⟩
end props
/-! ### What the walks ask -/
theorem supp_nil (c : Con) (j : Nat) : supp c [] j = 0 := by simp [supp, maskP]
theorem suppV_0 (c : Con) : suppV c [] = List.replicate c.vars.length 0 := by
  refine List.ext_getElem (by simp [suppV]) fun i h1 h2 => ?_
  simp [suppV, supp_nil]
theorem word_dom {c : Con} {ds : List Int} (hC : ConOk c ds.length) (hd : DomV ds) : ∀ d ∈ wordL c.vars ds, (0 : Int) ≤ d ∧ d ≤ 63 := fun d hm => by
  simp only [wordL, List.mem_map] at hm
  obtain ⟨v, hv, rfl⟩ := hm
  have := hC.vars v hv
  exact hd.at (by omega)
theorem tup_sat {c : Con} {n : Nat} {ds t : List Int} (hC : ConOk c n) (hl : ds.length = n) (h : t ∈ tupL (wordL c.vars ds)) : SatOk c t := by
  have hb := mem_tupL.1 h
  have ho := hC.one
  have hf := hC.v
  simp only [validConB, Bool.and_eq_true] at hf
  have h1 := hb.1
  simp [wordL] at h1
  exact ⟨hf.2, h1.symm, by omega, by omega, hb.vals⟩
theorem supp_stepT {c : Con} {T : List (List Int)} {t left : List Int} {k : Nat} (h : left = suppM c T t k) (hS : SatOk c t) (hk : t.length ≤ k) : left = suppV c (T ++ [t]) := by
  rw [h]; exact suppM_all c T t (by rw [hS.len]; exact hk)
theorem suppM_stepO {c : Con} {T : List (List Int)} {t : List Int} {k : Nat} (hs : satB c t = true) (hS : SatOk c t) (hk : k < t.length) : (suppM c T t k).set k (ior ((suppM c T t k).getD k 0) (ishl 1 (t.getD k 0))) = suppM c T t (k + 1) := by
  have h1 := hS.len
  rw [suppM_at (by omega), supp_or hs (hS.val.at hk)]
  exact suppM_set (by omega) rfl
theorem filtC_step {cs : List Con} {k : Nat} {ds : List Int} (h : k < cs.length) : filtC (cs.take (k + 1)) ds = filtL (cs.getD k nilCon) (filtC (cs.take k) ds) := by
  unfold filtC
  rw [take_succ_getD nilCon h, List.foldl_append]; rfl
theorem filtC_at {m : Mod} {ds xs : List Int} {k : Nat} (hM : MOk m) (hd : DOk m.doms.length ds) (e : xs = filtC (m.cons.take k) ds) : DOk m.doms.length xs := by
  subst e
  exact (filtC_ok (fun c hc => hM.cons c (List.mem_of_mem_take hc)) hd).1
/-! The reference's walk over the tuples. -/
/-- The tuples of w that begin with p (i values). -/
def extP (w : List Int) (i : Nat) (p : List Int) : List (List Int) := (tupL (w.drop i)).map (fun r => p ++ r)
theorem extP_base {w p : List Int} {i : Nat} (h : w.length ≤ i) : extP w i p = [p] := by simp [extP, List.drop_eq_nil_of_le h, tupL]
theorem extP_split {w p : List Int} {i : Nat} (h : i < w.length) : extP w i p = (valsI (w.getD i 0)).flatMap (fun v => extP w (i + 1) (p ++ [v])) := by
  unfold extP
  rw [List.drop_eq_getElem_cons h, tupL, List.map_flatMap, show w[i] = w.getD i 0 from by simp [List.getD, h]]
  simp [Function.comp_def]
theorem extP_all (w : List Int) : extP w 0 [] = tupL w := by simp [extP]
theorem take_set_succ {x p : List Int} {i : Nat} {v : Int} (h : x.take i = p) (hi : i < x.length) : (x.set i v).take (i + 1) = p ++ [v] := by
  rw [take_succ_getD 0 (by simpa using hi), List.take_set_of_le (Nat.le_refl _), h]
  congr 2
  rw [List.getD_eq_getElem?_getD, List.getElem?_set_self hi]; rfl
theorem take_of_succ {x p : List Int} {i : Nat} {v : Int} (h : x.take (i + 1) = p ++ [v]) (hp : p.length = i) : x.take i = p := by
  have : (x.take (i + 1)).take i = x.take i := by rw [List.take_take]; congr 1; omega
  rw [← this, h, List.take_append_of_le_length (by omega), List.take_of_length_le (by omega)]
theorem sat_of {c : Con} {n : Nat} {t : List Int} (hC : ConOk c n) (h1 : t.length = c.vars.length) (hv : Vals t) : SatOk c t := by
  have ho := hC.one
  have hf := hC.v
  simp only [validConB, Bool.and_eq_true] at hf
  exact ⟨hf.2, h1.symm, by omega, by omega, hv⟩
def extTo (w : List Int) (i : Nat) (p : List Int) (k : Nat) : List (List Int) := (membersTo (w.getD i 0) k).flatMap (fun v => extP w (i + 1) (p ++ [v]))
theorem extTo_0 (w : List Int) (i : Nat) (p : List Int) : extTo w i p 0 = [] := rfl
theorem extTo_T {w p : List Int} {i k : Nat} (h : hasB (w.getD i 0) (k : Int) = true) : extTo w i p k ++ extP w (i + 1) (p ++ [(k : Int)]) = extTo w i p (k + 1) := by
  unfold extTo; rw [← members_stepT rfl h]; simp
theorem extTo_F {w p : List Int} {i k : Nat} (h : hasB (w.getD i 0) (k : Int) = false) : extTo w i p k = extTo w i p (k + 1) := by
  unfold extTo; rw [← members_stepF rfl h]
theorem extTo_6 {w p : List Int} {i k : Nat} (h : i < w.length) (hk : k = 6) : extTo w i p k = extP w i p := by subst hk; exact (extP_split h).symm
theorem supp_stepS {c : Con} {T : List (List Int)} {t : List Int} {k : Nat} (hs : satB c t = true) (hS : SatOk c t) (hk : k < t.length) (b : (!(withinB (t.getD k 0) 0 5 && hasB ((suppM c T t k).getD k 0) (t.getD k 0))) = true) :
    (suppM c T t k).set k ((suppM c T t k).getD k 0 + ishl 1 (t.getD k 0)) = suppM c T t (k + 1) := by
  have h1 := hS.len
  have hv := hS.val.at hk
  rw [suppM_at (by omega)] at b ⊢
  rw [show withinB (t.getD k 0) 0 5 = true from withinB_iff.2 hv] at b
  exact suppM_set (by omega) (supp_addF hs hv (by simpa using b))
theorem supp_stepN {c : Con} {T : List (List Int)} {t : List Int} {k : Nat} (hs : satB c t = true) (hS : SatOk c t) (hk : k < t.length) (b : (!(withinB (t.getD k 0) 0 5 && hasB ((suppM c T t k).getD k 0) (t.getD k 0))) = false) :
    suppM c T t k = suppM c T t (k + 1) := by
  have h1 := hS.len
  have hv := hS.val.at hk
  rw [suppM_at (by omega)] at b
  rw [show withinB (t.getD k 0) 0 5 = true from withinB_iff.2 hv] at b
  exact suppM_same (by omega) (supp_addT hs hv (by simpa using b))
theorem dh_iff {d : Int} {k : Nat} (hk : k < 6) : (withinB (k : Int) 0 5 && hasB d (k : Int)) = hasB d (k : Int) := by
  rw [show withinB (k : Int) 0 5 = true from withinB_iff.2 (by omega)]; rfl
theorem supp_addle {c : Con} {T : List (List Int)} {t : List Int} {k : Nat} (hS : SatOk c t) (hk : k < t.length) : 0 ≤ (suppM c T t k).getD k 0 ∧ (suppM c T t k).getD k 0 ≤ 63 := by
  rw [suppM_at (by have := hS.len; omega)]; exact maskP_in _
/-! The reference's fixpoint. -/
theorem cons_no {cs : List Con} {ds : List Int} {k : Nat} (hk : k < cs.length) (h : (!(decide (filtL (cs.getD k nilCon) ds = ds))) = true) : false = consB cs ds :=
  (all_false (d := nilCon) hk (by simpa using h)).symm
theorem cons_step {cs : List Con} {ds : List Int} {k : Nat} (hk : k < cs.length) (hp : (cs.take k).all (fun c => decide (filtL c ds = ds)) = true) (h : (!(decide (filtL (cs.getD k nilCon) ds = ds))) = false) : (cs.take (k + 1)).all (fun c => decide (filtL c ds = ds)) = true :=
  all_take_step (d := nilCon) hk hp (by simpa using h)
theorem fix_go {m : Mod} {xs : List Int} (hM : MOk m) (hD : DOk m.doms.length xs) (h : (!(consB m.cons xs) && !(xs.contains 0)) = true) : filtA m xs ≠ xs ∧ xs.contains 0 = false := by
  simp only [Bool.and_eq_true, Bool.not_eq_true'] at h
  exact ⟨fun e => by have := (filtA_fix hM hD).1 e; rw [this] at h; simp at h, h.2⟩
theorem fix_end {m : Mod} {xs : List Int} (hM : MOk m) (hD : DOk m.doms.length xs) (h : (!(consB m.cons xs) && !(xs.contains 0)) = false) (h0 : xs.contains 0 = false) : prop m xs = xs := by
  rw [h0] at h
  exact prop_fix h0 ((filtA_fix hM hD).2 (by simpa using h))
/-! Branching, as the reference does it. -/
theorem br_exit {a : Nat} {n : Nat} {l : Int} (h : (decide ((a : Int) < (n : Int)) && decide (l = 1)) = false) : ¬ a < n ∨ l ≠ 1 := by
  by_cases h1 : a < n
  · right; intro e; subst e; simp at h; omega
  · exact .inl h1
theorem br_go {a : Nat} {n : Nat} {l : Int} (h : (decide ((a : Int) < (n : Int)) && decide (l = 1)) = true) : a < n ∧ l = 1 := by
  simp only [Bool.and_eq_true, decide_eq_true_eq] at h; exact ⟨by omega, h.2⟩
end
section
section at_
variable {m : Mod} {r : Int}
end at_
end
section
/-! Formulas with one quantifier for all. -/
end
section
def cmpI (a b : Int) : Int := if a < b then -1 else if b < a then 1 else 0
theorem cmpI_1 {a b : Int} (h : a < b) : (-1 : Int) = cmpI a b := by unfold cmpI; rw [if_pos h]
theorem cmpI_2 {a b : Int} (h : ¬ a < b) (h2 : b < a) : (1 : Int) = cmpI a b := by unfold cmpI; rw [if_neg h, if_pos h2]
theorem cmpI_3 {a b : Int} (h : ¬ a < b) (h2 : ¬ b < a) : (0 : Int) = cmpI a b := by unfold cmpI; rw [if_neg h, if_neg h2]
end
section
def truesI (l : Lit) : Int := if l.neg = true then iandNot 63 (ishl 1 l.val) else ishl 1 l.val
theorem trues_has {l : Lit} {v : Int} (h1 : 0 ≤ l.val ∧ l.val ≤ 5) (h2 : 0 ≤ v ∧ v ≤ 5) : hasB (truesI l) v = (decide (v = l.val) != l.neg) := by
  have key : ∀ i, i < 6 → ∀ j, j < 6 → hasB (iandNot 63 (ishl 1 ((i : Nat) : Int))) ((j : Nat) : Int) = !decide (((j : Nat) : Int) = ((i : Nat) : Int)) ∧ hasB (ishl 1 ((i : Nat) : Int)) ((j : Nat) : Int) = decide (((j : Nat) : Int) = ((i : Nat) : Int)) := by decide +kernel
  obtain ⟨a, b, c⟩ := l
  dsimp only at h1 ⊢
  obtain ⟨i, rfl⟩ := Int.eq_ofNat_of_zero_le h1.1
  obtain ⟨j, rfl⟩ := Int.eq_ofNat_of_zero_le h2.1
  obtain ⟨k1, k2⟩ := key i (by omega) j (by omega)
  unfold truesI
  cases c
  · simp only [Bool.false_eq_true, if_false, k2]; cases decide ((j : Int) = (i : Int)) <;> rfl
  · simp only [if_true, k1]; cases decide ((j : Int) = (i : Int)) <;> rfl
def litOkB (n : Int) (l : Lit) : Bool := withinB l.var 0 (n - 1) && withinB l.val 0 5
def litLt (a b : Lit) : Bool := if a.var ≠ b.var then decide (a.var < b.var) else if a.val ≠ b.val then decide (a.val < b.val) else !a.neg && b.neg
theorem litLt_1 {a b : Lit} (h : a.var ≠ b.var) : decide (a.var < b.var) = litLt a b := by unfold litLt; rw [if_pos h]
theorem litLt_2 {a b : Lit} (h0 : ¬ a.var ≠ b.var) (h : a.val ≠ b.val) : decide (a.val < b.val) = litLt a b := by unfold litLt; rw [if_neg h0, if_pos h]
theorem litLt_3 {a b : Lit} (h0 : ¬ a.var ≠ b.var) (h : ¬ a.val ≠ b.val) : (!a.neg && b.neg) = litLt a b := by unfold litLt; rw [if_neg h0, if_neg h]
def orI : List Int → Int
  | [] => 0
  | x :: r => if x ≠ 0 then x else orI r
theorem orI_at : ∀ {xs : List Int} {k : Nat}, k < xs.length → (xs.take k).all (fun x => decide (x = 0)) = true → xs.getD k 0 ≠ 0 → xs.getD k 0 = orI xs
  | [], k, h, _, _ => absurd h (Nat.not_lt_zero k)
  | x :: r, 0, _, _, h => by
    have h : x ≠ 0 := h
    unfold orI; rw [if_pos h]; rfl
  | x :: r, k + 1, hk, h1, h => by
    simp only [List.take_succ_cons, List.all_cons, Bool.and_eq_true, decide_eq_true_eq] at h1
    unfold orI; rw [if_neg (by simp [h1.1])]
    exact orI_at (by simpa using hk) h1.2 h
theorem orI_end : ∀ {xs : List Int}, xs.all (fun x => decide (x = 0)) = true → (0 : Int) = orI xs
  | [], _ => rfl
  | x :: r, h => by
    simp only [List.all_cons, Bool.and_eq_true, decide_eq_true_eq] at h
    unfold orI; rw [if_neg (by simp [h.1])]; exact orI_end h.2
theorem all0_step {xs : List Int} {k : Nat} (hk : k < xs.length) (h : (xs.take k).all (fun x => decide (x = 0)) = true) (c : ¬ xs.getD k 0 ≠ 0) : (xs.take (k + 1)).all (fun x => decide (x = 0)) = true := by
  rw [take_succ_getD 0 hk, List.all_append, h]; simpa using c
theorem all0_end {xs : List Int} {k : Nat} (hk : k = xs.length) (h : (xs.take k).all (fun x => decide (x = 0)) = true) : (0 : Int) = orI xs := orI_end (by rw [hk, List.take_length] at h; exact h)
def litCmp (a b : Lit) : Int := orI [cmpI a.var b.var, cmpI a.val b.val, cmpI (if a.neg = true then 1 else 0) (if b.neg = true then 1 else 0)]
theorem litCmp_lt (a b : Lit) : decide (0 ≤ litCmp a b) = !(litLt a b) := by
  obtain ⟨a1, a2, a3⟩ := a; obtain ⟨b1, b2, b3⟩ := b
  simp only [litCmp, litLt, orI, cmpI]
  by_cases h1 : a1 < b1
  · simp [h1, show a1 ≠ b1 by omega]
  · by_cases h2 : b1 < a1
    · simp [h1, h2, show a1 ≠ b1 by omega]
    · have e : a1 = b1 := by omega
      subst e
      by_cases h3 : a2 < b2
      · simp [h3, show a2 ≠ b2 by omega]
      · by_cases h4 : b2 < a2
        · simp [h3, h4, show a2 ≠ b2 by omega]
        · have e : a2 = b2 := by omega
          subst e
          cases a3 <;> cases b3 <;> simp
def clAt (n : Int) (c : List Lit) (i : Nat) : Bool := litOkB n (c.getD i nilLit) && !(decide ((0 : Int) < (i : Int)) && !(litLt (c.getD ((i : Int) - 1).toNat nilLit) (c.getD i nilLit)))
def clTo (n : Int) (c : List Lit) (k : Nat) : Bool := (List.range k).all (clAt n c)
def clI (n : Int) (c : List Lit) : Bool := clTo n c c.length && (withinB n 1 4 && decide ((c.length : Int) ≤ 12))
theorem eqLit_iff (a b : Lit) : decide (a = b) = (decide (a.var = b.var) && (decide (a.val = b.val) && decide (a.neg = b.neg))) := by
  rw [Bool.eq_iff_iff]; simp [lit_ext]
theorem litOk_at {n : Int} {c : List Lit} {i : Nat} (h : clTo n c c.length = true) (hi : i < c.length) : litOkB n (c.getD i nilLit) = true := by
  have h1 := List.all_eq_true.1 h i (List.mem_range.2 hi)
  unfold clAt at h1; simp only [Bool.and_eq_true] at h1; exact h1.1
end
section
variable {A : Type}
structure TotC (c : A → A → Int) : Prop where
  asy : ∀ a b, c a b < 0 → ¬ c b a < 0
  tr : ∀ a b d, ¬ c b a < 0 → ¬ c d b < 0 → ¬ c d a < 0
def swapL (ys : List A) (j : Nat) (d : A) : List A := (ys.set (j + 1) (ys.getD j d)).set j (ys.getD (j + 1) d)
theorem swapL_at {ys : List A} {j : Nat} {d : A} (h : j + 1 < ys.length) (p : Nat) : (swapL ys j d).getD p d = if p = j then ys.getD (j + 1) d else if p = j + 1 then ys.getD j d else ys.getD p d := by
  unfold swapL
  simp only [List.getD_eq_getElem?_getD, List.getElem?_set, List.length_set]
  by_cases e1 : p = j
  · subst e1; simp [show p < ys.length by omega]
  · rw [if_neg (fun e => e1 e.symm), if_neg e1]
    by_cases e2 : p = j + 1
    · subst e2; simp [h]
    · rw [if_neg (fun e => e2 e.symm), if_neg e2]
theorem swapL_perm {ys : List A} {j : Nat} {d : A} (h : j + 1 < ys.length) : (swapL ys j d).Perm ys := by
  have e0 : ys = ys.take j ++ ys.getD j d :: ys.getD (j + 1) d :: ys.drop (j + 2) := by
    conv => lhs; rw [← List.take_append_drop j ys, List.drop_eq_getElem_cons (show j < ys.length by omega), List.drop_eq_getElem_cons h]
    simp [List.getD_eq_getElem?_getD, h, show j < ys.length by omega]
  have e1 : swapL ys j d = ys.take j ++ ys.getD (j + 1) d :: ys.getD j d :: ys.drop (j + 2) := by
    have hl : (ys.take j).length = j := by rw [List.length_take]; omega
    apply List.ext_getElem?
    intro p
    unfold swapL
    simp only [List.getElem?_set, List.length_set]
    by_cases e1 : j = p
    · subst e1; rw [if_pos rfl, if_pos (by omega), List.getElem?_append_right (by omega), hl]; simp
    · rw [if_neg e1]
      by_cases e2 : j + 1 = p
      · subst e2; rw [if_pos rfl, if_pos h, List.getElem?_append_right (by omega), hl]; simp [show j + 1 - j = 1 by omega]
      · rw [if_neg e2]
        by_cases e3 : p < j
        · rw [List.getElem?_append_left (by omega), List.getElem?_take, if_pos e3]
        · rw [List.getElem?_append_right (by omega), hl]
          obtain ⟨q, rfl⟩ : ∃ q, p = j + 2 + q := ⟨p - (j + 2), by omega⟩
          rw [show j + 2 + q - j = q + 2 from by omega]
          simp
  rw [e1]
  conv => rhs; rw [e0]
  exact List.Perm.append_left _ (List.Perm.swap _ _ _)
/-- Inside: what lies at the places up to i is ascending, but for the element at j, which may be too small. -/
structure InsA (c : A → A → Int) (d : A) (xs ys : List A) (i j : Nat) : Prop where
  perm : ys.Perm xs
  ji : j ≤ i
  srt : ∀ p q, p < q → q ≤ i → q ≠ j → ¬ c (ys.getD q d) (ys.getD p d) < 0
structure SrtA (c : A → A → Int) (d : A) (xs ys : List A) (i : Nat) : Prop where
  perm : ys.Perm xs
  srt : ∀ p q, p < q → q < i → ¬ c (ys.getD q d) (ys.getD p d) < 0
variable {c : A → A → Int} {d : A} {xs ys : List A} {i j : Nat}
theorem SrtA.zero (xs : List A) : SrtA c d xs xs 1 := ⟨.refl _, fun p q h1 h2 => by omega⟩
theorem SrtA.go (h : SrtA c d xs ys i) : InsA c d xs ys i i := ⟨h.perm, Nat.le_refl _, fun p q h1 h2 h3 => h.srt p q h1 (by omega)⟩
theorem InsA.step (hc : TotC c) (h : InsA c d xs ys i j) (hj : 0 < j) (hi : i < ys.length) (hlt : c (ys.getD j d) (ys.getD (j - 1) d) < 0) : InsA c d xs (swapL ys (j - 1) d) i (j - 1) := by
  obtain ⟨k, rfl⟩ : ∃ k, j = k + 1 := ⟨j - 1, by omega⟩
  rw [Nat.add_sub_cancel] at hlt ⊢
  have hji := h.ji
  have hk : k + 1 < ys.length := by omega
  refine ⟨(swapL_perm hk).trans h.perm, by omega, fun p q h1 h2 h3 => ?_⟩
  rw [swapL_at hk, swapL_at hk, if_neg h3]
  by_cases e1 : q = k + 1
  · subst e1
    rw [if_pos rfl]
    by_cases e2 : p = k
    · subst e2; rw [if_pos rfl]; exact hc.asy _ _ hlt
    · rw [if_neg e2, if_neg (by omega)]; exact h.srt p k (by omega) (by omega) (by omega)
  · rw [if_neg e1]
    by_cases e2 : p = k
    · subst e2; rw [if_pos rfl]; exact h.srt (p + 1) q (by omega) h2 e1
    · rw [if_neg e2]
      by_cases e3 : p = k + 1
      · subst e3; rw [if_pos rfl]; exact h.srt k q (by omega) h2 e1
      · rw [if_neg e3]; exact h.srt p q h1 h2 e1
theorem InsA.done0 (h : InsA c d xs ys i 0) : SrtA c d xs ys (i + 1) := ⟨h.perm, fun p q h1 h2 => h.srt p q h1 (by omega) (by omega)⟩
theorem InsA.done (hc : TotC c) (h : InsA c d xs ys i j) (hj : 0 < j) (hn : ¬ c (ys.getD j d) (ys.getD (j - 1) d) < 0) : SrtA c d xs ys (i + 1) := ⟨h.perm, fun p q h1 h2 => by
  by_cases e : q = j
  · subst e
    by_cases e2 : p = q - 1
    · subst e2; exact hn
    · exact hc.tr _ _ _ (h.srt p (q - 1) (by omega) (by have := h.ji; omega) (by omega)) hn
  · exact h.srt p q h1 (by omega) e⟩
/-- The ascending list. -/
def SrtL (c : A → A → Int) (d : A) (ys : List A) : Prop := ∀ p q, p < q → q < ys.length → ¬ c (ys.getD q d) (ys.getD p d) < 0
theorem SrtA.all (h : SrtA c d xs ys i) (hi : ys.length ≤ i) : SrtL c d ys := fun p q h1 h2 => h.srt p q h1 (by omega)
theorem SrtL.tail {y : A} (h : SrtL c d (y :: ys)) : SrtL c d ys := fun p q h1 h2 => by
  have := h (p + 1) (q + 1) (by omega) (by simpa using h2)
  simpa using this
/-- Two ascending lists of the same elements are the same, if no two elements are alike. -/
theorem srt_unique (ha : ∀ a b, ¬ c a b < 0 → ¬ c b a < 0 → a = b) : ∀ {ys zs : List A}, ys.Perm zs → SrtL c d ys → SrtL c d zs → ys = zs
  | [], zs, hp, _, _ => (List.nil_perm.1 hp).symm
  | y :: ys, [], hp, _, _ => by have := hp.length_eq; simp at this
  | y :: ys, z :: zs, hp, h1, h2 => by
    have e : y = z := by
      have m1 : y ∈ z :: zs := hp.subset (.head _)
      have m2 : z ∈ y :: ys := hp.symm.subset (.head _)
      rcases List.mem_cons.1 m1 with e | m1
      · exact e
      · rcases List.mem_cons.1 m2 with e | m2
        · exact e.symm
        · obtain ⟨p, hp1, hp2⟩ := List.getElem_of_mem m1
          obtain ⟨q, hq1, hq2⟩ := List.getElem_of_mem m2
          have g1 := h2 0 (p + 1) (by omega) (by simpa using hp1)
          have g2 := h1 0 (q + 1) (by omega) (by simpa using hq1)
          simp only [List.getD_eq_getElem?_getD, List.getElem?_cons_succ, List.getElem?_cons_zero, List.getElem?_eq_getElem hp1, List.getElem?_eq_getElem hq1, Option.getD_some, hp2, hq2] at g1 g2
          exact ha _ _ g1 g2
    subst e
    rw [srt_unique ha ((List.perm_cons y).1 hp) h1.tail h2.tail]
end
section
def len8M : List UInt8 := [0, 1] ++ List.replicate 2 2 ++ List.replicate 4 3 ++ List.replicate 8 4 ++ List.replicate 16 5 ++ List.replicate 32 6 ++ List.replicate 64 7 ++ List.replicate 128 8
def len8B : ByteArray := ⟨len8M.toArray⟩
theorem len8_any {i : Nat} (h2 : i < 64) : ∃ b : UInt8, len8B[i]? = some b ∧ b.toNat ≤ 8 := by
  have key : ∀ i, i < 64 → ((len8M[i]?).map (fun b => decide (b.toNat ≤ 8))) = some true := by decide +kernel
  have h := key i h2
  cases e : len8M[i]? with
  | none => rw [e] at h; cases h
  | some b =>
    rw [e] at h
    refine ⟨b, ?_, by simpa using h⟩
    have hl : i < len8M.length := (List.getElem?_eq_some_iff.1 e).1
    have hs : i < len8B.size := by
      have e1 : len8B.size = len8M.length := by simp [len8B, ByteArray.size]
      omega
    rw [getElem?_pos len8B i hs]
    have e2 := (List.getElem?_eq_some_iff.1 e).2
    simp only [Option.some.injEq]
    rw [← e2]
    simp [len8B, ByteArray.getElem_eq_getElem_data]
section ops
variable {C : Cx} {dr : Bool} {ops : Array Oper} {Q : Post} {ims L : List Hp} {G : Env} {fl : List Bool} {rest : List Oper} {d ty : Nat} {pos : String} {af : Array Edge}
theorem kl_ixLen0 {x y : Operand} {T : Nat} {m : Int} [hT : IsStr C.P T] (hx : ev G x = some (.string len8B)) (hy : ev G y = some (.int .u8 (IntKind.wrap .u8 m))) (hm : 0 ≤ m ∧ m < 64)
    (h : ∀ z : Int, 0 ≤ z ∧ z ≤ 8 → KL C dr ops Q ims L fl.tail rest ((d, .int .u8 z) :: G)) (hlt : Nat.blt d C.n = true := by rfl) :
    KL C dr ops Q ims L fl (⟨some d, .index T x y, ty, pos, af, none⟩ :: rest) G := by
  have e : IntKind.wrap .u8 m = m := by
    have key : ∀ i, i < 64 → IntKind.wrap .u8 ((i : Nat) : Int) = ((i : Nat) : Int) := by decide +kernel
    obtain ⟨i, rfl⟩ := Int.eq_ofNat_of_zero_le (by omega : 0 ≤ m)
    exact key i (by omega)
  rw [e] at hy
  obtain ⟨b, hb, hv⟩ := len8_any (i := m.toNat) (by omega)
  have h0 : 0 ≤ m := hm.1
  refine kl_y (v := .int .u8 ((b.toNat : Nat) : Int)) (fun r w hr _ => ?_) (h _ (by omega)) hlt
  simp [execOp, hr _ _ hx, hr _ _ hy, Instr.index, run_underlying hT.u, asIntOf, go_sem, h0, hb]
end ops
/-! An operation that asks nothing of the world goes first, whatever the others write. -/
theorem anyG_firstP {P : Program} {md : Region.Mode} {ops : Array Oper} {Q : Exit → Act → World → Prop} {S : World → Prop} {fx : Nat → Bool} {i : Nat} {oi : Oper} {v : Value}
    (hi : ops[i]? = some oi) (hsel : ∀ (j : Nat) (o : Oper) cs b, ops[j]? = some o → o.op ≠ .select cs b)
    (hQ : ∀ c a w, Q (.panic c) (a.put oi.dst v) w → Q (.panic c) a w) (hfx : fx i = true) :
    ∀ (fuel : Nat) (listed : Array Bool) (a : Act) (w : World), Dc md ops listed →
      (∀ j oj, ops[j]? = some oj → j ≠ i → listed.getD j true = false → (∀ e ∈ oj.after, Region.binds md e = true → e.on ≠ i) → oi.apart ops oj = true) →
      i ∈ Region.ready md ops listed → YieldsIf P ops (fun _ => True) oi v a →
      anyG P md ops Q S fx fuel (listed.setIfInBounds i true) (a.put oi.dst v) w → anyG P md ops Q S fx (fuel + 1) listed a w := by
  intro fuel
  induction fuel with
  | zero =>
    intro listed a w _ _ hr hy H
    refine ⟨fun h => (by rw [h] at hr; cases hr), fun j hj => ?_⟩
    by_cases hji : j = i
    · subst hji; exact hy.wpOp hi trivial ⟨.inl hfx, H⟩
    · have := ready_mono hj hji
      rw [H.1] at this
      cases this
  | succ fuel ih =>
    intro listed a w hdc hfree hr hy H
    refine ⟨fun h => (by rw [h] at hr; cases hr), fun j hj => ?_⟩
    by_cases hji : j = i
    · subst hji; exact hy.wpOp hi trivial ⟨.inl hfx, H⟩
    · have h1 := H.2 j (ready_mono hj hji)
      obtain ⟨hjun, oj, hoj, hall⟩ := mem_ready.1 hj
      have hnot : ∀ e ∈ oj.after, Region.binds md e = true → e.on ≠ i := fun e he hb heq => by
        have h1 := hall e he hb
        have h0 := (mem_ready.1 hr).1
        rw [heq] at h1
        rcases Nat.lt_or_ge i listed.size with h' | h'
        · simp [h'] at h0 h1; rw [h0] at h1; cases h1
        · simp [Array.getElem?_eq_none h'] at h1
      have h2 := wpOp_putIf hoj (hfree j oj hoj hji hjun hnot) (fun cs b => hsel i oi cs b hi) (fun cs b => hsel j oj cs b hoj) hQ hy h1
      have hfree' : ∀ k ok, ops[k]? = some ok → k ≠ i → (listed.setIfInBounds j true).getD k true = false →
          (∀ e ∈ ok.after, Region.binds md e = true → e.on ≠ i) → oi.apart ops ok = true := fun k ok hk hki hun hno => by
        refine hfree k ok hk hki ?_ hno
        by_cases hjk : j = k
        · subst hjk; exact hjun
        · rw [getD_set_ne true hjk] at hun; exact hun
      refine wpOp_mono (fun a' w' h3 => ?_) h2
      refine ⟨h3.2.1, ih (listed.setIfInBounds j true) a' w' (hdc.set hj) hfree' (ready_mono hr (Ne.symm hji)) h3.1 ?_⟩
      rw [Array.setIfInBounds_comm _ _ hji]
      exact h3.2.2
theorem kt_p {C : Cx} {ops : Array Oper} {Q : Post} {ims L : List Hp} {G : Env} {fx : Nat → Bool} {LS : List Hp} {fuel : Nat} {listed : Array Bool} (k : Nat) {d ty : Nat} {op : Op} {pos : String} {af : Array Edge} {v : Value} (ho : ops[k]? = some ⟨some d, op, ty, pos, af, none⟩) (hfx : fx k = true)
    (hB : (Region.noSelect ops && (Region.ready .any ops listed).contains k && Region.free .any ops listed k) = true)
    (hy : ∀ (r : Operand → Value) (w : World), Ev G r → (execOp r ⟨some d, op, ty, pos, af, none⟩).run C.P w = .ok (.value v) w)
    (h : KT C ops (Only Q) fx LS fuel (listed.setIfInBounds k true) ims L ((d, v) :: G)) (hlt : Nat.blt d C.n = true := by rfl) : KT C ops (Only Q) fx LS (fuel + 1) listed ims L G := fun a w hf hs hdc => by
  simp only [Bool.and_eq_true] at hB
  obtain ⟨⟨hsel, hr⟩, hfree⟩ := hB
  have hr' : k ∈ Region.ready .any ops listed := by simpa using hr
  exact anyG_firstP ho (Region.noSelect_spec hsel) (fun c a w hq => hq.elim) hfx fuel listed a w hdc (Region.free_spec ho hfree) hr'
    (.inl ⟨by simp [Region.wanted], fun w' _ => hy a.eval w' hf.toEv⟩) (h _ w (hf.put (by simpa [Nat.blt_eq, Cx.m] using hlt)) hs (hdc.set hr'))
theorem py_mv {P : Program} {G : Env} {d ty : Nat} {pos : String} {af : Array Edge} {x : Operand} {v : Value} (hx : ev G x = some v) : ∀ (r : Operand → Value) (w : World), Ev G r → (execOp r ⟨some d, .move x, ty, pos, af, none⟩).run P w = .ok (.value v) w := fun a w hf => by simp [go_sem, hf _ _ hx]
theorem py_sub {P : Program} {G : Env} {d ty T T2 : Nat} {pos : String} {af : Array Edge} {x y : Operand} {m k : Int} (hx : ev G x = some (.int .i64 m)) (hy : ev G y = some (.int .i64 k)) (hb : -9223372036854775808 ≤ m - k ∧ m - k ≤ 9223372036854775807) :
    ∀ (r : Operand → Value) (w : World), Ev G r → (execOp r ⟨some d, .binOp .sub T x y T2, ty, pos, af, none⟩).run P w = .ok (.value (.int .i64 (m - k))) w := fun a w hf => by simp [go_sem, hf _ _ hx, hf _ _ hy, wrap_in hb]
section ops2
variable {C : Cx} {dr : Bool} {ops : Array Oper} {Q : Post} {ims L : List Hp} {G : Env} {fl : List Bool} {rest : List Oper} {d ty : Nat} {pos : String} {af : Array Edge}
end ops2
/-! Inside the sort. -/
variable {A : Type} {c : A → A → Int} {d : A} {xs ys : List A} {i j : Nat} {z : Int}
theorem so_pos (h : z = (j : Int) ∧ InsA c d xs ys i j) (hx : (decide ((0 : Int) < z) && decide (c (ys.getD z.toNat d) (ys.getD (z - 1).toNat d) < 0)) = true) : 0 < j := by
  simp only [Bool.and_eq_true, decide_eq_true_eq] at hx; omega
theorem so_step (hc : TotC c) (h : z = (j : Int) ∧ InsA c d xs ys i j) (hi : i < ys.length) (hx : (decide ((0 : Int) < z) && decide (c (ys.getD z.toNat d) (ys.getD (z - 1).toNat d) < 0)) = true) :
    z - 1 = ((j - 1 : Nat) : Int) ∧ InsA c d xs ((ys.set z.toNat (ys.getD (z - 1).toNat d)).set (z - 1).toNat (ys.getD z.toNat d)) i (j - 1) := by
  have hj := so_pos h hx
  obtain ⟨rfl, h⟩ := h
  simp only [Bool.and_eq_true, decide_eq_true_eq] at hx
  obtain ⟨k, rfl⟩ : ∃ k, j = k + 1 := ⟨j - 1, by omega⟩
  rw [show (((k + 1 : Nat) : Int) - 1).toNat = k from by omega, Int.toNat_natCast] at hx ⊢
  exact ⟨by omega, InsA.step hc h hj hi hx.2⟩
theorem so_exit (hc : TotC c) (h : z = (j : Int) ∧ InsA c d xs ys i j) (hx : (decide ((0 : Int) < z) && decide (c (ys.getD z.toNat d) (ys.getD (z - 1).toNat d) < 0)) = false) : SrtA c d xs ys (i + 1) := by
  obtain ⟨rfl, h⟩ := h
  by_cases hj : j = 0
  · subst hj; exact h.done0
  · obtain ⟨k, rfl⟩ : ∃ k, j = k + 1 := ⟨j - 1, by omega⟩
    rw [show (((k + 1 : Nat) : Int) - 1).toNat = k from by omega, Int.toNat_natCast, decide_eq_true (by omega : (0 : Int) < ((k + 1 : Nat) : Int)), Bool.true_and, decide_eq_false_iff_not] at hx
    exact h.done hc (Nat.succ_pos k) (by rw [Nat.add_sub_cancel]; exact hx)
/-! Literals. -/
theorem litLt_iff {a b : Lit} : litLt a b = true ↔ a.var < b.var ∨ (a.var = b.var ∧ (a.val < b.val ∨ (a.val = b.val ∧ (a.neg = false ∧ b.neg = true)))) := by
  unfold litLt
  by_cases h1 : a.var = b.var
  · rw [if_neg (by simpa using h1)]
    by_cases h2 : a.val = b.val
    · rw [if_neg (by simpa using h2)]; simp [h1, h2]
    · rw [if_pos h2]; simp [h1, h2]
  · rw [if_pos h1]; simp [h1]
theorem litC_iff {a b : Lit} : litCmp a b < 0 ↔ litLt a b = true := by
  have h := litCmp_lt a b
  cases e : litLt a b with
  | true => rw [e] at h; simp at h; simp; omega
  | false => rw [e] at h; simp at h; simp; omega
theorem litC_tot : TotC litCmp := by
  refine ⟨fun a b h => ?_, fun a b d h1 h2 => ?_⟩
  · rw [litC_iff, litLt_iff] at *
    rintro (g | ⟨g1, g | ⟨g2, g3, g4⟩⟩)
    · rcases h with h | ⟨h, _⟩ <;> omega
    · rcases h with h | ⟨h, h | ⟨h, _⟩⟩ <;> omega
    · rcases h with h | ⟨h, h | ⟨h, h3, h4⟩⟩
      · omega
      · omega
      · rw [g3] at h4; cases h4
  · rw [litC_iff, litLt_iff] at *
    rintro (g | ⟨g1, g | ⟨g2, g3, g4⟩⟩)
    · by_cases e : b.var < a.var
      · exact h1 (.inl e)
      · exact h2 (.inl (by omega))
    · by_cases e : b.var = a.var
      · by_cases e2 : b.val < a.val
        · exact h1 (.inr ⟨e, .inl e2⟩)
        · exact h2 (.inr ⟨by omega, .inl (by omega)⟩)
      · by_cases e3 : b.var < a.var
        · exact h1 (.inl e3)
        · exact h2 (.inl (by omega))
    · by_cases e : b.var = a.var
      · by_cases e2 : b.val = a.val
        · cases e5 : b.neg with
          | false => exact h1 (.inr ⟨e, .inr ⟨e2, e5, g4⟩⟩)
          | true => exact h2 (.inr ⟨by omega, .inr ⟨by omega, g3, e5⟩⟩)
        · by_cases e3 : b.val < a.val
          · exact h1 (.inr ⟨e, .inl e3⟩)
          · exact h2 (.inr ⟨by omega, .inl (by omega)⟩)
      · by_cases e3 : b.var < a.var
        · exact h1 (.inl e3)
        · exact h2 (.inl (by omega))
theorem litC_anti {a b : Lit} (h1 : ¬ litCmp a b < 0) (h2 : ¬ litCmp b a < 0) : a = b := by
  rw [litC_iff, litLt_iff] at *
  obtain ⟨a1, a2, a3⟩ := a
  obtain ⟨b1, b2, b3⟩ := b
  dsimp only at *
  have e1 : a1 = b1 := by
    by_cases e : a1 < b1
    · exact absurd (.inl e) h1
    · by_cases e' : b1 < a1
      · exact absurd (.inl e') h2
      · omega
  subst e1
  have e2 : a2 = b2 := by
    by_cases e : a2 < b2
    · exact absurd (.inr ⟨rfl, .inl e⟩) h1
    · by_cases e' : b2 < a2
      · exact absurd (.inr ⟨rfl, .inl e'⟩) h2
      · omega
  subst e2
  cases a3 <;> cases b3 <;> simp at *
theorem SrtA.le {A : Type} {c : A → A → Int} {d : A} {xs ys : List A} {i n : Nat} (h : SrtA c d xs ys i) (hn : n ≤ i) : SrtA c d xs ys n := ⟨h.perm, fun p q h1 h2 => h.srt p q h1 (by omega)⟩
end
section
def negL (l : Lit) : Lit := ⟨l.var, l.val, !l.neg⟩
def negTo (c : List Lit) (k : Nat) : List Lit := (c.take k).map negL
theorem negTo_step {c out : List Lit} {k : Nat} (h : out = negTo c k) (hk : k < c.length) : out ++ [⟨(c.getD k nilLit).var, (c.getD k nilLit).val, !(c.getD k nilLit).neg⟩] = negTo c (k + 1) := by
  rw [h, negTo, negTo, take_succ_getD nilLit hk, List.map_append]; rfl
theorem negL_inj {a b : Lit} (h : negL a = negL b) : a = b := by
  obtain ⟨a1, a2, a3⟩ := a
  obtain ⟨b1, b2, b3⟩ := b
  simp only [negL, Lit.mk.injEq] at h
  obtain ⟨rfl, rfl, h⟩ := h
  cases a3 <;> cases b3 <;> simp_all
theorem neg_nodup {c : List Lit} (h : c.Nodup) : (c.map negL).Nodup := by
  rw [List.nodup_iff_pairwise_ne, List.pairwise_map]
  exact (List.nodup_iff_pairwise_ne.1 h).imp fun h e => h (negL_inj e)
theorem litLt_trans {a b d : Lit} (h : litLt a b = true) (g : litLt b d = true) : litLt a d = true := by
  rw [litLt_iff] at *
  rcases h with h | ⟨h1, h | ⟨h2, h3, h4⟩⟩ <;> rcases g with g | ⟨g1, g | ⟨g2, g3, g4⟩⟩
  · exact .inl (by omega)
  · exact .inl (by omega)
  · exact .inl (by omega)
  · exact .inl (by omega)
  · exact .inr ⟨by omega, .inl (by omega)⟩
  · exact .inr ⟨by omega, .inl (by omega)⟩
  · exact .inl (by omega)
  · exact .inr ⟨by omega, .inl (by omega)⟩
  · rw [g3] at h4; cases h4
theorem cl_lt {n : Int} {c : List Lit} (h : clTo n c c.length = true) : ∀ (j i : Nat), i < j → j < c.length → litLt (c.getD i nilLit) (c.getD j nilLit) = true
  | 0, i, hi, _ => absurd hi (Nat.not_lt_zero _)
  | j + 1, i, hi, hj => by
    have h1 := List.all_eq_true.1 h (j + 1) (List.mem_range.2 hj)
    unfold clAt at h1
    rw [decide_eq_true (by omega : (0 : Int) < ((j + 1 : Nat) : Int)), show (((j + 1 : Nat) : Int) - 1).toNat = j from by omega] at h1
    simp only [Bool.and_eq_true, Bool.true_and, Bool.not_not] at h1
    by_cases e : i = j
    · subst e; exact h1.2
    · exact litLt_trans (cl_lt h j i (by omega) (by omega)) h1.2
theorem litLt_irr (a : Lit) : litLt a a = false := by
  rw [Bool.eq_false_iff]; intro h
  rw [litLt_iff] at h
  rcases h with h | ⟨_, h | ⟨_, h1, h2⟩⟩
  · omega
  · omega
  · rw [h1] at h2; cases h2
theorem cl_nodup {n : Int} {c : List Lit} (h : clI n c = true) : c.Nodup ∧ c.length ≤ 12 ∧ ∀ l ∈ c, litOkB n l = true := by
  unfold clI at h
  simp only [Bool.and_eq_true, decide_eq_true_eq] at h
  refine ⟨?_, by omega, fun l hl => ?_⟩
  · rw [List.nodup_iff_pairwise_ne, List.pairwise_iff_getElem]
    intro i j hi hj hij e
    have := cl_lt h.1 j i hij hj
    rw [List.getD_eq_getElem?_getD, List.getD_eq_getElem?_getD, List.getElem?_eq_getElem hi, List.getElem?_eq_getElem hj, Option.getD_some, Option.getD_some, e, litLt_irr] at this
    cases this
  · obtain ⟨i, hi, rfl⟩ := List.getElem_of_mem hl
    have := litOk_at h.1 hi
    rwa [List.getD_eq_getElem?_getD, List.getElem?_eq_getElem hi, Option.getD_some] at this
structure NegR (c rq : List Lit) : Prop where
  perm : rq.Perm (c.map negL)
  srt : SrtL litCmp nilLit rq
theorem srt_adj {ys zs : List Lit} {k : Nat} (hn : zs.Nodup) (hp : ys.Perm zs) (h0 : 0 < k) (hk : k < ys.length) : ys.getD k nilLit ≠ ys.getD (k - 1) nilLit := by
  have h := List.nodup_iff_pairwise_ne.1 (hp.symm.nodup hn)
  rw [List.pairwise_iff_getElem] at h
  have := h (k - 1) k (by omega) hk (by omega)
  rw [List.getD_eq_getElem?_getD, List.getD_eq_getElem?_getD, List.getElem?_eq_getElem hk, List.getElem?_eq_getElem (show k - 1 < ys.length by omega), Option.getD_some, Option.getD_some]
  exact fun e => this e.symm
theorem neg_pre {c out : List Lit} {k : Nat} (hn : c.Nodup) (h : out = negTo c k) (hk : c.length ≤ k) (hl : c.length ≤ 12) : out.Nodup ∧ out.length ≤ 12 ∧ out = c.map negL := by
  rw [h, negTo, List.take_of_length_le hk]
  exact ⟨neg_nodup hn, by simpa using hl, rfl⟩
theorem srt_cpt {c ys : List Lit} (hn : c.Nodup) (h : SrtA litCmp nilLit c ys c.length) : (∀ k : Nat, 0 < k → k < ys.length → ys.getD k nilLit ≠ ys.getD ((k : Int) - 1).toNat nilLit) ∧ ys.length ≤ c.length ∧ ys.Perm c ∧ SrtL litCmp nilLit ys := by
  have hl := h.perm.length_eq
  refine ⟨fun k h0 hk => ?_, by omega, h.perm, h.all (by omega)⟩
  rw [show ((k : Int) - 1).toNat = k - 1 from by omega]
  exact srt_adj hn h.perm h0 hk
end
section
/-! The values in a list of tuples. -/
end
section
theorem filt_mono {c : Con} {n : Nat} {es ds : List Int} (hc : ConOk c n) (he : es.length = n) (hd : ds.length = n) (hs : SubD es ds) : SubD (filtL c es) (filtL c ds) := ⟨by rw [filtL_len, filtL_len, hs.1], fun i hi v hv h => by
  rw [filtL_len] at hi
  rcases filt_cases hc he (i := i) (by omega) with ⟨j, hj, e, e2⟩ | ⟨h1, e2⟩ <;> rcases filt_cases hc hd (i := i) (by omega) with ⟨j', hj', e', e2'⟩ | ⟨h1', e2'⟩
  · have hjj : j = j' := hc.inj hj hj' (by omega)
    subst hjj
    rw [e2] at h; rw [e2']
    obtain ⟨t, ht, hs2, hvt⟩ := (supp_has hv).1 h
    refine (supp_has hv).2 ⟨t, ?_, hs2, hvt⟩
    have hb := mem_tupL.1 ht
    refine mem_tupL.2 ⟨by rw [hb.1]; simp [wordL], fun k hk => ?_⟩
    have hk' : k < c.vars.length := by simpa [wordL] using hk
    have hx := hb.2 k (by simpa [wordL] using hk')
    rw [word_at hk'] at hx ⊢
    have hat := hc.at hk'
    rw [mem_valsI] at hx ⊢
    exact ⟨hx.1, hs.2 _ (by omega) _ hx.1 hx.2⟩
  · exact absurd e (h1' j hj)
  · exact absurd e' (h1 j' hj')
  · rw [e2] at h; rw [e2']; exact hs.2 i hi v hv h⟩
theorem filtC_mono {cs : List Con} {n : Nat} (hc : ∀ c ∈ cs, ConOk c n) : ∀ {es ds : List Int}, es.length = n → ds.length = n → SubD es ds → SubD (filtC cs es) (filtC cs ds) := by
  induction cs with
  | nil => intro es ds _ _ h; exact h
  | cons c cs ih =>
    intro es ds he hd h
    exact ih (fun c hm => hc c (.tail _ hm)) ((filtL_len c es).trans he) ((filtL_len c ds).trans hd) (filt_mono (hc c (.head _)) he hd h)
theorem prop_top {m : Mod} (hM : MOk m) {F : List Int} (hF : DOk m.doms.length F) (hfix : filtA m F = F) (hz : F.contains 0 = false) : ∀ (k : Nat) {ds : List Int}, sumN ds = k → DOk m.doms.length ds → SubD F ds → SubD F (prop m ds) := by
  intro k
  induction k using Nat.strongRecOn with
  | _ k ih =>
    intro ds hk hd hs
    cases h0 : ds.contains 0 with
    | true =>
      exfalso
      obtain ⟨i, hi, h1⟩ := List.getElem_of_mem (List.contains_iff_mem.1 h0)
      have h2 : ds.getD i 0 = 0 := by simp [List.getD, hi, h1]
      have hi' : i < F.length := by rw [hs.1]; exact hi
      have h3 := sub_le (hd.d.at hi) (hF.d.at hi') (hs.2 i hi)
      have h4 := hF.d.at hi'
      have h5 : F.getD i 0 = 0 := by omega
      have h6 := getD_mem (d := (0 : Int)) hi'
      rw [h5] at h6
      have h7 := List.contains_iff_mem.2 h6
      rw [hz] at h7; cases h7
    | false =>
      by_cases e : filtA m ds = ds
      · rw [prop_fix h0 e]; exact hs
      · rw [← prop_step hM hd h0 e]
        have hf := filtA_ok hM hd
        have hm : SubD (filtA m F) (filtA m ds) := filtC_mono hM.cons hF.l hd.l hs
        rw [hfix] at hm
        exact ih _ (hk ▸ filtA_lt hM hd e) rfl hf.1 hm
/-! Probing. -/
end
section
/-! Entailment. -/
end
section
theorem nodup_sub_len : ∀ {xs ys : List Int}, xs.Nodup → (∀ x ∈ xs, x ∈ ys) → xs.length ≤ ys.length
  | [], _, _, _ => Nat.zero_le _
  | x :: xs, ys, hn, hs => by
    obtain ⟨h1, h2⟩ := List.nodup_cons.1 hn
    have h3 : xs.length ≤ (ys.erase x).length := nodup_sub_len h2 (fun y hy => (List.mem_erase_of_ne (fun e => h1 (by rw [← e]; exact hy))).2 (hs y (.tail _ hy)))
    have hm := hs x (.head _)
    rw [List.length_erase_of_mem hm] at h3
    have := List.length_pos_of_mem hm
    simp only [List.length_cons]; omega
theorem iota_sub {n : Nat} {vars : List Int} (hn : vars.Nodup) (h : ∀ v ∈ vars, (0 : Int) ≤ v ∧ v < n) : vars.length ≤ n := by
  have := nodup_sub_len (ys := natsI (List.range n)) hn (fun v hv => by
    have := h v hv
    exact List.mem_map.2 ⟨v.toNat, List.mem_range.2 (by omega), by omega⟩)
  simpa [natsI] using this
/-! The model of all variables. -/
/-! What the walks ask. -/
theorem rows_small {rows : List (List Int)} {n lo hi : Int} (h : rowsInB rows n lo hi = true) (hn : n ≤ 6) : rows.length ≤ 8 ∧ ∀ r ∈ rows, r.length ≤ 12 := by
  simp only [rowsInB, Bool.and_eq_true, withinB_iff, List.all_eq_true, decide_eq_true_eq] at h
  exact ⟨by omega, fun r hr => by have := (h.2 r hr).1; omega⟩
theorem rows_none {rows : List (List Int)} (h : (rows.length : Int) = 0) : rows.length ≤ 8 ∧ ∀ r ∈ rows, r.length ≤ 12 := by
  have e : rows = [] := List.eq_nil_of_length_eq_zero (by omega)
  subst e; exact ⟨by simp, fun r hr => by cases hr⟩
theorem con_small {c : Con} {n : Nat} (h : validConB c n = true) : ConSm 100 c := by
  simp only [validConB, Bool.and_eq_true, withinB_iff] at h
  obtain ⟨⟨⟨⟨h1, h2⟩, h3⟩, h4⟩, h5⟩ := h
  have hv : c.vars.length ≤ 4 := by omega
  have key : c.args.length ≤ 12 ∧ c.rows.length ≤ 8 ∧ ∀ r ∈ c.rows, r.length ≤ 12 := by
    unfold fitsB at h5
    split at h5
    · simp only [Bool.and_eq_true, decide_eq_true_eq] at h5; exact ⟨by omega, rows_none h5.2⟩
    · split at h5
      · simp only [Bool.and_eq_true, decide_eq_true_eq] at h5; exact ⟨by omega, rows_none h5.2⟩
      · split at h5
        · simp only [Bool.and_eq_true, decide_eq_true_eq] at h5; exact ⟨by omega, rows_none h5.2⟩
        · split at h5
          · simp only [Bool.and_eq_true, decide_eq_true_eq, withinB_iff] at h5; exact ⟨by omega, rows_none h5.2⟩
          · split at h5
            · simp only [Bool.and_eq_true, decide_eq_true_eq] at h5; exact ⟨by omega, rows_small h5.2 (by omega)⟩
            · split at h5
              · simp only [Bool.and_eq_true, decide_eq_true_eq] at h5; exact ⟨by omega, rows_none h5.2⟩
              · split at h5
                · simp only [Bool.and_eq_true, decide_eq_true_eq] at h5; exact ⟨by omega, rows_none h5.2⟩
                · split at h5
                  · simp only [Bool.and_eq_true, decide_eq_true_eq, allInB_iff] at h5
                    have hr := rows_small h5.1.1.1 (by omega)
                    have hd : c.args.Nodup := of_decide_eq_true h5.1.1.2
                    have := iota_sub (n := 8) hd (fun v hv => by have := h5.1.2 v hv; omega)
                    exact ⟨by omega, hr⟩
                  · cases h5
  exact ⟨by omega, by omega, by omega, by omega, key.2.2⟩
theorem ok_small {m : Mod} (h : MOk m) : ModSm 100 m := ⟨h.n.1, h.n.2, by have := h.few; omega, fun c hc => con_small (h.cm hc)⟩
end
section
theorem pairOf {A B : Type} {a : A} {b : B} {p : A × B} (h : (a, b) = p) : a = p.1 ∧ b = p.2 := by subst h; exact ⟨rfl, rfl⟩
theorem and_has {d e : Int} (hd : 0 ≤ d ∧ d ≤ 63) (he : 0 ≤ e ∧ e ≤ 63) : (0 ≤ iand d e ∧ iand d e ≤ 63) ∧ ∀ u : Int, 0 ≤ u ∧ u ≤ 5 → hasB (iand d e) u = (hasB d u && hasB e u) := by
  have key : ∀ d, d < 64 → ∀ e, e < 64 → (0 ≤ iand ((d : Nat) : Int) ((e : Nat) : Int) ∧ iand ((d : Nat) : Int) ((e : Nat) : Int) ≤ 63) ∧ ∀ u, u < 6 → hasB (iand ((d : Nat) : Int) ((e : Nat) : Int)) ((u : Nat) : Int) = (hasB ((d : Nat) : Int) ((u : Nat) : Int) && hasB ((e : Nat) : Int) ((u : Nat) : Int)) := by decide +kernel
  obtain ⟨i, rfl⟩ := Int.eq_ofNat_of_zero_le hd.1
  obtain ⟨j, rfl⟩ := Int.eq_ofNat_of_zero_le he.1
  have h := key i (by omega) j (by omega)
  refine ⟨h.1, fun u hu => ?_⟩
  obtain ⟨w, rfl⟩ := Int.eq_ofNat_of_zero_le hu.1
  exact h.2 w (by omega)
theorem trues_ok {l : Lit} (h : 0 ≤ l.val ∧ l.val ≤ 5) : 0 ≤ truesI l ∧ truesI l ≤ 63 := by
  have key : ∀ i, i < 6 → (0 ≤ iandNot 63 (ishl 1 ((i : Nat) : Int)) ∧ iandNot 63 (ishl 1 ((i : Nat) : Int)) ≤ 63) ∧ (0 ≤ ishl 1 ((i : Nat) : Int) ∧ ishl 1 ((i : Nat) : Int) ≤ 63) := by decide +kernel
  obtain ⟨a, b, c⟩ := l
  dsimp only at h
  obtain ⟨i, rfl⟩ := Int.eq_ofNat_of_zero_le h.1
  have k := key i (by omega)
  unfold truesI
  cases c
  · exact k.2
  · exact k.1
def LitIn (n : Nat) (l : Lit) : Prop := (0 ≤ l.var ∧ l.var < (n : Int)) ∧ (0 ≤ l.val ∧ l.val ≤ 5)
def ClIn (n : Nat) (c : List Lit) : Prop := ∀ l ∈ c, LitIn n l
def ClsIn (n : Nat) (cls : List (List Lit)) : Prop := ∀ c ∈ cls, ClIn n c
/-- One literal is set. -/
def setT (d : List Int) (l : Lit) : List Int := d.set l.var.toNat (iand (d.getD l.var.toNat 0) (truesI l))
def rstL (d : List Int) (ls : List Lit) : List Int := ls.foldl setT d
theorem setT_len (d : List Int) (l : Lit) : (setT d l).length = d.length := by simp [setT]
theorem getD_setT {d : List Int} {l : Lit} {n : Nat} (hd : DOk n d) (hl : LitIn n l) (i : Nat) : (setT d l).getD i 0 = if i = l.var.toNat then iand (d.getD i 0) (truesI l) else d.getD i 0 := by
  have hv : l.var.toNat < d.length := by rw [hd.l]; have := hl.1; omega
  unfold setT
  by_cases e : i = l.var.toNat
  · subst e; rw [if_pos rfl]; simp [List.getD, hv]
  · rw [if_neg e]
    have e' : l.var.toNat ≠ i := fun h => e h.symm
    simp [List.getD, List.getElem?_set, e']
theorem setT_ok {d : List Int} {l : Lit} {n : Nat} (hd : DOk n d) (hl : LitIn n l) : DOk n (setT d l) ∧ SubD (setT d l) d := by
  have hv : l.var.toNat < d.length := by rw [hd.l]; have := hl.1; omega
  have ht := trues_ok hl.2
  refine ⟨⟨(setT_len d l).trans hd.l, fun x hx => ?_⟩, setT_len d l, fun i hi v hv5 h => ?_⟩
  · unfold setT at hx
    rcases List.mem_or_eq_of_mem_set hx with h | h
    · exact hd.d x h
    · rw [h]; exact (and_has (hd.d.at hv) ht).1
  · rw [getD_setT hd hl] at h
    split at h
    · rw [(and_has (hd.d.at hi) ht).2 v hv5, Bool.and_eq_true] at h; exact h.1
    · exact h
theorem rstL_ok {n : Nat} : ∀ {ls : List Lit} {d : List Int}, DOk n d → ClIn n ls → DOk n (rstL d ls) ∧ SubD (rstL d ls) d
  | [], d, hd, _ => ⟨hd, SubD.refl d⟩
  | l :: ls, d, hd, h => by
    have h1 := setT_ok hd (h l (.head _))
    have h2 := rstL_ok (ls := ls) h1.1 (fun k hk => h k (.tail _ hk))
    exact ⟨h2.1, h2.2.trans h1.2⟩
theorem setT_has {n : Nat} {d : List Int} {l : Lit} (hd : DOk n d) (hl : LitIn n l) {i : Nat} (hi : i < n) {v : Int} (hv : 0 ≤ v ∧ v ≤ 5) : hasB ((setT d l).getD i 0) v = (hasB (d.getD i 0) v && (!(decide (i = l.var.toNat)) || hasB (truesI l) v)) := by
  rw [getD_setT hd hl]
  by_cases e : i = l.var.toNat
  · rw [if_pos e, (and_has (hd.d.at (by rw [hd.l]; exact hi)) (trues_ok hl.2)).2 v hv]; simp [e]
  · rw [if_neg e]; simp [e]
theorem rstL_has {n : Nat} {i : Nat} (hi : i < n) {v : Int} (hv : 0 ≤ v ∧ v ≤ 5) : ∀ {ls : List Lit} {d : List Int}, DOk n d → ClIn n ls → hasB ((rstL d ls).getD i 0) v = (hasB (d.getD i 0) v && ls.all (fun l => !(decide (i = l.var.toNat)) || hasB (truesI l) v))
  | [], d, hd, _ => by simp [rstL]
  | l :: ls, d, hd, h => by
    have h1 := setT_ok hd (h l (.head _))
    have h2 := rstL_has hi hv (ls := ls) h1.1 (fun k hk => h k (.tail _ hk))
    show hasB ((rstL (setT d l) ls).getD i 0) v = _
    rw [h2, setT_has hd (h l (.head _)) hi hv, List.all_cons, Bool.and_assoc]
theorem negs_in {n : Nat} {c : List Lit} (h : ClIn n c) : ClIn n (c.map negL) := fun l hl => by
  obtain ⟨k, hk, rfl⟩ := List.mem_map.1 hl
  exact h k hk
/-- All literals of a clause are false. -/
def rstN (d : List Int) (c : List Lit) : List Int := rstL d (c.map negL)
/-! A clause, propagated. -/
def opnL (c : List Lit) (d : List Int) : List Lit := c.filter (fun l => decide (iand (d.getD l.var.toNat 0) (truesI l) ≠ 0))
def unitL (c : List Lit) (d : List Int) : List Int := match opnL c d with
  | [] => zerosL d.length
  | [l] => setT d l
  | _ => d
theorem unit_0 {c : List Lit} {d : List Int} (h : opnL c d = []) : unitL c d = zerosL d.length := by unfold unitL; rw [h]
theorem unit_1 {c : List Lit} {d : List Int} {l : Lit} (h : opnL c d = [l]) : unitL c d = setT d l := by unfold unitL; rw [h]
theorem unit_2 {c : List Lit} {d : List Int} (h : 2 ≤ (opnL c d).length) : unitL c d = d := by
  unfold unitL
  match h2 : opnL c d, h with
  | [], h => simp at h
  | [_], h => simp at h
  | _ :: _ :: _, _ => rfl
theorem opn_mem {c : List Lit} {d : List Int} {l : Lit} (h : l ∈ opnL c d) : l ∈ c := (List.mem_filter.1 h).1
theorem unit_ok {n : Nat} {c : List Lit} {d : List Int} (hd : DOk n d) (hc : ClIn n c) : DOk n (unitL c d) ∧ SubD (unitL c d) d := by
  match h : opnL c d with
  | [] => rw [unit_0 h, hd.l]; exact ⟨zerosL_ok n, hd.l ▸ zerosL_sub d⟩
  | [l] => rw [unit_1 h]; exact setT_ok hd (hc l (opn_mem (by rw [h]; exact .head _)))
  | a :: b :: r => rw [unit_2 (by rw [h]; simp)]; exact ⟨hd, SubD.refl d⟩
def unitA (cls : List (List Lit)) (d : List Int) : List Int := cls.foldl (fun d c => unitL c d) d
theorem unitA_ok {n : Nat} : ∀ {cls : List (List Lit)} {d : List Int}, DOk n d → ClsIn n cls → DOk n (unitA cls d) ∧ SubD (unitA cls d) d
  | [], d, hd, _ => ⟨hd, SubD.refl d⟩
  | c :: cs, d, hd, h => by
    have h1 := unit_ok hd (h c (.head _))
    have h2 := unitA_ok (cls := cs) h1.1 (fun k hk => h k (.tail _ hk))
    exact ⟨h2.1, h2.2.trans h1.2⟩
def stepW (m : Mod) (cls : List (List Lit)) (d : List Int) : List Int := unitA cls (prop m d)
theorem stepW_ok {m : Mod} {cls : List (List Lit)} {d : List Int} (hM : MOk m) (hd : DOk m.doms.length d) (hc : ClsIn m.doms.length cls) : DOk m.doms.length (stepW m cls d) ∧ SubD (stepW m cls d) d := by
  have h1 := propOk hM hd
  have h2 := unitA_ok h1.ok hc
  exact ⟨h2.1, h2.2.trans h1.sub⟩
theorem stepW_lt {m : Mod} {cls : List (List Lit)} {d : List Int} (hM : MOk m) (hd : DOk m.doms.length d) (hc : ClsIn m.doms.length cls) (hne : stepW m cls d ≠ d) : sumN (stepW m cls d) < sumN d :=
  (stepW_ok hM hd hc).2.lt (stepW_ok hM hd hc).1.d hd.d hne
def wcl (m : Mod) (cls : List (List Lit)) (d : List Int) : List Int :=
  if d.contains 0 = true then zerosL d.length else if stepW m cls d = d then d else if h : sumN (stepW m cls d) < sumN d then wcl m cls (stepW m cls d) else d
termination_by sumN d
theorem wcl_0 {m : Mod} {cls : List (List Lit)} {d : List Int} (h : d.contains 0 = true) : wcl m cls d = zerosL d.length := by rw [wcl, if_pos h]
theorem wcl_fix {m : Mod} {cls : List (List Lit)} {d : List Int} (h : d.contains 0 = false) (e : stepW m cls d = d) : wcl m cls d = d := by rw [wcl, if_neg (by rw [h]; simp), if_pos e]
theorem wcl_step {m : Mod} {cls : List (List Lit)} {d : List Int} (hM : MOk m) (hd : DOk m.doms.length d) (hc : ClsIn m.doms.length cls) (h : d.contains 0 = false) (e : stepW m cls d ≠ d) : wcl m cls (stepW m cls d) = wcl m cls d := by
  rw [wcl.eq_1 m cls d, if_neg (by rw [h]; simp), if_neg e, dif_pos (stepW_lt hM hd hc e)]
/-! Whether a clause is implied. -/
def rfE (m : Mod) (cls : List (List Lit)) (d : List Int) : Bool := decide ((wcl m cls d).getD 0 0 = 0)
def impB (m : Mod) (cls : List (List Lit)) (c : List Lit) : Bool := rfE m cls (rstN m.doms c)
theorem zeros_0 {d : List Int} : (zerosL d.length).getD 0 0 = 0 := by
  cases d <;> simp [zerosL, List.getD]
theorem zeros_all {d : List Int} {n : Nat} (hn : 1 ≤ n) (hl : d.length = n) : (zerosL d.length).contains 0 = true := by
  rw [List.contains_iff_mem]; simp only [zerosL, List.mem_replicate]; exact ⟨by omega, trivial⟩
/-! Checking a proof. -/
/-! The bounded model. -/
def iotaN (n : Nat) : List Int := (List.range n).map (fun (i : Nat) => (i : Int))
def lowC (n : Nat) (obj : List Int) (b : Int) : Con := ⟨1, iotaN n, obj, b, []⟩
def withC (m : Mod) (c : Con) : Mod := ⟨m.doms, m.cons ++ [c]⟩
def wcR (m : Mod) (c : Con) : Mod × Bool := if validModB (withC m c) = true then (withC m c, true) else (⟨[], []⟩, false)
def bdG (m : Mod) (obj : List Int) (b : Int) : Bool := objOkB m obj && withinB b (-998) 1000
def bdR (m : Mod) (obj : List Int) (b : Int) : Mod × Bool := if bdG m obj b = true then wcR m (lowC obj.length obj (b - 1)) else (⟨[], []⟩, false)
theorem wc_no {m : Mod} {c : Con} (h : validModB (withC m c) = false) : wcR m c = (⟨[], []⟩, false) := by unfold wcR; rw [if_neg (by rw [h]; simp)]
theorem wc_yes {m : Mod} {c : Con} (h : validModB (withC m c) = true) : wcR m c = (withC m c, true) := if_pos h
theorem bd_no {m : Mod} {obj : List Int} {b : Int} (h : (!(objOkB m obj) || !(withinB b (-998) 1000)) = true) : bdR m obj b = (⟨[], []⟩, false) := by
  unfold bdR bdG; rw [if_neg]; revert h; cases objOkB m obj <;> cases withinB b (-998) 1000 <;> simp
theorem bd_yes {m : Mod} {obj : List Int} {b : Int} (h : (!(objOkB m obj) || !(withinB b (-998) 1000)) = false) : bdR m obj b = wcR m (lowC obj.length obj (b - 1)) := by
  unfold bdR bdG; rw [if_pos]; revert h; cases objOkB m obj <;> cases withinB b (-998) 1000 <;> simp
theorem bd_cS {m : Mod} {obj : List Int} {b : Int} : ((!(validModB m) || !(objOkS m obj)) || !(withinB b (-998) 1000)) = (!(objOkB m obj) || !(withinB b (-998) 1000)) := by
  rw [obj_eq]; cases validModB m <;> cases objOkS m obj <;> rfl
theorem iotaN_step {k : Nat} {vs : List Int} (h : vs = iotaN k) : vs ++ [(k : Int)] = iotaN (k + 1) := by subst h; simp [iotaN, List.range_succ]
theorem iota_len (n : Nat) : (iotaN n).length = n := by simp [iotaN]
end
section
theorem bd_ok {m : Mod} {obj : List Int} {b : Int} (h : (!(objOkB m obj) || !(withinB b (-998) 1000)) = false) : m.cons.length ≤ 100 ∧ obj.length ≤ 100 ∧ MOk m ∧ obj.length = m.doms.length ∧ (-1000 ≤ b ∧ b ≤ 2000) := by
  simp only [Bool.or_eq_false_iff, Bool.not_eq_false', withinB_iff] at h
  have h1 := objok h.1
  have h2 := h1.1.few
  have h3 := h1.1.n
  exact ⟨by omega, by omega, h1.1, h1.2.1, by omega⟩
theorem low_small {vs obj : List Int} {b : Int} (h : vs = iotaN obj.length) (hn : 1 ≤ obj.length ∧ obj.length ≤ 100) : ConSm 100 ⟨1, vs, obj, b, []⟩ := by
  subst h
  exact ⟨by dsimp only; rw [iota_len]; omega, by dsimp only; rw [iota_len]; omega, hn.2, by simp, fun r hr => (by cases hr)⟩
theorem ishl_small {v : Int} (h : 0 ≤ v ∧ v ≤ 5) : 1 ≤ ishl 1 v ∧ ishl 1 v ≤ 32 := by
  have key : ∀ i, i < 6 → 1 ≤ ishl 1 ((i : Nat) : Int) ∧ ishl 1 ((i : Nat) : Int) ≤ 32 := by decide +kernel
  obtain ⟨i, rfl⟩ := Int.eq_ofNat_of_zero_le h.1
  exact key i (by omega)
/-! One clause. -/
/-! The rounds. -/
section rounds
variable {m : Mod} {cls : List (List Lit)} {xs ys ds : List Int}
end rounds
/-! Sizes of lists of clauses. -/
def lsum (xs : List (List Lit)) : Nat := (xs.map List.length).sum
theorem lsum_step {xs : List (List Lit)} {k : Nat} (h : k < xs.length) : lsum (xs.take (k + 1)) = lsum (xs.take k) + (xs.getD k []).length := by
  rw [take_succ_getD [] h]; simp [lsum]
theorem lsum_le (xs : List (List Lit)) (k : Nat) : lsum (xs.take k) ≤ lsum xs := by simp only [lsum, List.map_take]; exact sum_take_le _ _
end
section
/-! Distances. -/
end
section

end
section

end
section
theorem prop_z {m : Mod} (hM : MOk m) : ∀ (k : Nat) {ds : List Int}, sumN ds = k → DOk m.doms.length ds → (prop m ds).contains 0 = true → prop m ds = zerosL ds.length := by
  intro k
  induction k using Nat.strongRecOn with
  | _ k ih =>
    intro ds hk hd hz
    by_cases h0 : ds.contains 0 = true
    · exact prop_0 h0
    · have h0 : ds.contains 0 = false := by simpa using h0
      by_cases e : filtA m ds = ds
      · rw [prop_fix h0 e, h0] at hz; cases hz
      · have h1 := prop_step hM hd h0 e
        rw [← h1] at hz ⊢
        have h2 := (filtA_ok hM hd).1
        rw [ih _ (by rw [← hk]; exact filtA_lt hM hd e) rfl h2 hz, h2.l, hd.l]
theorem prop_first {m : Mod} (hM : MOk m) {ds : List Int} (hd : DOk m.doms.length ds) : (prop m ds).getD 0 0 = 0 ↔ (prop m ds).contains 0 = true := by
  have hn := hM.n
  have hl := (propOk hM hd).ok.l
  constructor
  · intro h
    have := getD_mem (d := (0 : Int)) (by omega : 0 < (prop m ds).length)
    rw [h] at this; exact List.contains_iff_mem.2 this
  · intro h
    rw [prop_z hM _ rfl hd h]
    have : 0 < ds.length := by rw [hd.l]; omega
    simp [zerosL, List.getD, this]
theorem prop_at {m : Mod} (hM : MOk m) {ds : List Int} (hd : DOk m.doms.length ds) (h0 : (prop m ds).contains 0 = false) : ∀ i, i < (prop m ds).length → 1 ≤ (prop m ds).getD i 0 ∧ (prop m ds).getD i 0 ≤ 63 := fun i hi => by
  have h1 := (propOk hM hd).ok.d.at hi
  have h2 : (prop m ds).getD i 0 ≠ 0 := fun e => by
    have := getD_mem (d := (0 : Int)) hi
    rw [e] at this
    rw [List.contains_iff_mem.2 this] at h0; cases h0
  omega
/-- The first variable that is open. -/
def opI (ds : List Int) : Int := indexBy (fun d => decide ((1 : Int) < popI d)) ds
section tree
variable {m : Mod} {obj ds : List Int}
theorem op_in (h : ¬ opI ds < 0) : opI ds < (ds.length : Int) ∧ (1 : Int) < popI (ds.getD (opI ds).toNat 0) := by
  unfold opI indexBy at h ⊢
  cases e : ds.findIdx? (fun d => decide ((1 : Int) < popI d)) with
  | none => rw [e] at h; simp at h
  | some i =>
    rw [List.findIdx?_eq_some_iff_getElem] at e
    obtain ⟨h1, h2, _⟩ := e
    dsimp only
    refine ⟨by omega, ?_⟩
    rw [Int.toNat_natCast, show ds.getD i 0 = ds[i] from by simp [List.getD, h1]]
    simpa using h2
/-- The reference finds the same variable. -/
theorem op_no {i : Nat} (hD : ∀ i, i < ds.length → 1 ≤ ds.getD i 0 ∧ ds.getD i 0 ≤ 63) (hi : i = ds.length) (h : ∀ j, j < i → (valsI (ds.getD j 0)).length = 1) : opI ds < 0 := by
  have h1 := indexBy_none (p := fun d => decide ((1 : Int) < popI d)) (xs := ds) (k := i) (by omega) (by
    rw [List.any_eq_false]; intro d hd
    obtain ⟨j, hj, rfl⟩ := List.getElem_of_mem (List.mem_of_mem_take hd)
    have := h j (by omega)
    rw [show ds.getD j 0 = ds[j] from by simp [List.getD, hj]] at this
    simp [popI, this])
  unfold opI; omega
theorem op_at {i : Nat} (hD : ∀ i, i < ds.length → 1 ≤ ds.getD i 0 ∧ ds.getD i 0 ≤ 63) (hi : i < ds.length) (h : ∀ j, j < i → (valsI (ds.getD j 0)).length = 1) (h1 : (valsI (ds.getD i 0)).length ≠ 1) : opI ds = (i : Int) := by
  have h2 := List.length_pos_iff.2 (valsI_ne (d := ds.getD i 0) (by have := hD i hi; omega) (by have := hD i hi; omega))
  refine (indexBy_hit (d := 0) hi ?_ ?_).symm
  · rw [List.any_eq_false]; intro d hd
    obtain ⟨j, hj, rfl⟩ := List.getElem_of_mem hd
    rw [List.length_take] at hj
    have h3 := h j (by omega)
    rw [List.getElem_take]
    rw [show ds.getD j 0 = ds[j]'(by omega) from by simp [List.getD, (by omega : j < ds.length)]] at h3
    simp [popI, h3]
  · refine decide_eq_true ?_
    unfold popI; omega
theorem lim_eq {i : Nat} {v : Int} (hd : 0 ≤ ds.getD i 0 ∧ ds.getD i 0 ≤ 63) (hv : v ∈ valsI (ds.getD i 0)) : iand (ds.getD i 0) (ishl 1 v) = ishl 1 v := by
  have key : ∀ d, d < 64 → ∀ v ∈ valsI ((d : Nat) : Int), iand ((d : Nat) : Int) (ishl 1 v) = ishl 1 v := by decide +kernel
  obtain ⟨d, e⟩ := Int.eq_ofNat_of_zero_le hd.1
  rw [e] at hv ⊢
  exact key d (by omega) v hv
end tree
end
section
/-- One after another, until one fails. -/
def foldR (f : Int → List (List Lit) × Bool) : List Int → List (List Lit) × Bool
  | [] => ([], true)
  | v :: vs => if (f v).2 = true then ((f v).1 ++ (foldR f vs).1, (foldR f vs).2) else ((f v).1, false)
def endR (cl : List Lit) (r : List (List Lit) × Bool) : List (List Lit) × Bool := if r.2 = true then (r.1 ++ [cl], true) else (r.1, false)
def refF : Nat → Mod → List Int → List Lit → List (List Lit) × Bool
  | 0, m, ds, cl => if (prop m ds).contains 0 = true then ([cl], true) else ([], false)
  | k + 1, m, ds, cl => if (prop m ds).contains 0 = true then ([cl], true) else if opI (prop m ds) < 0 then ([], false) else
      endR cl (foldR (fun v => refF k m ((prop m ds).set (opI (prop m ds)).toNat (ishl 1 v)) (cl ++ [⟨opI (prop m ds), v, true⟩])) (valsI ((prop m ds).getD (opI (prop m ds)).toNat 0)))
def chR (k : Nat) (m : Mod) (d : List Int) (cl : List Lit) (v : Int) : List (List Lit) × Bool := refF k m (d.set (opI d).toNat (ishl 1 v)) (cl ++ [⟨opI d, v, true⟩])
theorem ref_0 {k : Nat} {m : Mod} {ds : List Int} {cl : List Lit} (h : (prop m ds).contains 0 = true) : refF k m ds cl = ([cl], true) := by
  cases k <;> (unfold refF; rw [if_pos h])
theorem ref_leaf {k : Nat} {m : Mod} {ds : List Int} {cl : List Lit} (h : (prop m ds).contains 0 = false) (ho : opI (prop m ds) < 0) : refF k m ds cl = ([], false) := by
  cases k with
  | zero => unfold refF; rw [if_neg (by rw [h]; simp)]
  | succ k => unfold refF; rw [if_neg (by rw [h]; simp), if_pos ho]
theorem ref_node {k : Nat} {m : Mod} {ds : List Int} {cl : List Lit} (h : (prop m ds).contains 0 = false) (ho : ¬ opI (prop m ds) < 0) :
    refF (k + 1) m ds cl = endR cl (foldR (chR k m (prop m ds) cl) (valsI ((prop m ds).getD (opI (prop m ds)).toNat 0))) := by
  rw [refF, if_neg (by rw [h]; simp), if_neg ho]; rfl
theorem foldR_app (f : Int → List (List Lit) × Bool) (a b : List Int) (h : (foldR f a).2 = true) : foldR f (a ++ b) = ((foldR f a).1 ++ (foldR f b).1, (foldR f b).2) := by
  induction a with
  | nil => simp [foldR]
  | cons v vs ih =>
    rw [foldR] at h
    split at h
    · rename_i h1
      rw [List.cons_append, foldR, if_pos h1, ih h, foldR, if_pos h1]
      simp [List.append_assoc]
    · cases h
theorem foldR_stop (f : Int → List (List Lit) × Bool) (a b : List Int) (h : (foldR f a).2 = false) : foldR f (a ++ b) = foldR f a := by
  induction a with
  | nil => simp [foldR] at h
  | cons v vs ih =>
    rw [List.cons_append, foldR, foldR]
    split
    · rename_i h1
      rw [foldR, if_pos h1] at h
      rw [ih h]
    · rfl
theorem foldR_one (f : Int → List (List Lit) × Bool) (v : Int) : foldR f [v] = f v := by
  rw [foldR]
  split
  · rename_i h; simp [foldR, h.symm]
  · rename_i h
    have : (f v).2 = false := by simpa using h
    exact Prod.ext rfl this.symm
theorem foldR_step {f : Int → List (List Lit) × Bool} {xs : List Int} {k : Nat} (hk : k < xs.length) (h : (foldR f (xs.take k)).2 = true) : foldR f (xs.take (k + 1)) = ((foldR f (xs.take k)).1 ++ (f (xs.getD k 0)).1, (f (xs.getD k 0)).2) := by
  rw [take_succ_getD 0 hk, foldR_app f _ _ h, foldR_one]
theorem foldR_hit {f : Int → List (List Lit) × Bool} {xs : List Int} {k : Nat} (h : (foldR f (xs.take k)).2 = false) : foldR f xs = foldR f (xs.take k) := by
  have := foldR_stop f (xs.take k) (xs.drop k) h
  rwa [List.take_append_drop] at this
/-! The decisions on a path. -/
structure PathOk (n : Nat) (ds : List Int) (cl : List Lit) : Prop where
  l : ∀ l ∈ cl, LitIn n l ∧ l.neg = true
  s : cl.Pairwise (fun a b => a.var < b.var)
  d : ∀ l ∈ cl, ∀ j : Nat, (j : Int) ≤ l.var → (valsI (ds.getD j 0)).length ≤ 1
theorem path_nil (n : Nat) (ds : List Int) : PathOk n ds [] := ⟨fun _ h => (by cases h), .nil, fun _ h => (by cases h)⟩
theorem valsI_nd (d : Int) : (valsI d).Nodup := by
  rw [List.nodup_iff_pairwise_ne]
  simp only [valsI, membersTo, natsI]
  rw [List.pairwise_map]
  refine (List.Pairwise.filter _ (List.nodup_range (n := 6))).imp fun h e => h (by omega)
theorem vals_sub {es ds : List Int} (h : SubD es ds) (j : Nat) (hj : j < ds.length) : (valsI (es.getD j 0)).length ≤ (valsI (ds.getD j 0)).length := by
  have hn : (valsI (es.getD j 0)).Nodup := valsI_nd _
  refine List.Nodup.length_le_of_subset hn (fun v hv => ?_)
  have := mem_valsI.1 hv
  exact mem_valsI.2 ⟨this.1, h.2 j hj v this.1 this.2⟩
theorem path_prop {m : Mod} {ds : List Int} {cl : List Lit} (hM : MOk m) (hd : DOk m.doms.length ds) (h : PathOk m.doms.length ds cl) : PathOk m.doms.length (prop m ds) cl := by
  have hp := propOk hM hd
  refine ⟨h.l, h.s, fun l hl j hj => ?_⟩
  have h1 := ((h.l l hl).1).1
  have h2 := vals_sub hp.sub j (by rw [hd.l]; omega)
  have h3 := h.d l hl j hj
  omega
theorem path_lt {n : Nat} {d : List Int} {cl : List Lit} (h : PathOk n d cl) (hl : d.length = n) (ho : ¬ opI d < 0) : ∀ l ∈ cl, l.var < opI d := fun l hm => by
  have h1 := op_in ho
  have h2 := h.d l hm (opI d).toNat
  unfold popI at h1
  have h3 : 0 ≤ opI d := by omega
  by_cases e : (opI d : Int) ≤ l.var
  · have := h2 (by omega); omega
  · omega
theorem open_first {d : List Int} (ho : ¬ opI d < 0) {j : Nat} (hj : (j : Int) < opI d) : (valsI (d.getD j 0)).length ≤ 1 := by
  unfold opI indexBy at ho hj
  cases e : d.findIdx? (fun d => decide ((1 : Int) < popI d)) with
  | none => rw [e] at ho; simp at ho
  | some i =>
    rw [e] at hj
    rw [List.findIdx?_eq_some_iff_getElem] at e
    obtain ⟨h1, _, h3⟩ := e
    have hj' : j < i := by simpa using hj
    have h4 := h3 j hj'
    rw [show d.getD j 0 = d[j]'(by omega) from by simp [List.getD, (by omega : j < d.length)]]
    unfold popI at h4
    simp at h4
    omega
theorem path_child {n : Nat} {d : List Int} {cl : List Lit} {v : Int} (h : PathOk n d cl) (hl : d.length = n) (ho : ¬ opI d < 0) (hv : 0 ≤ v ∧ v ≤ 5) : PathOk n (d.set (opI d).toNat (ishl 1 v)) (cl ++ [⟨opI d, v, true⟩]) := by
  have hin := op_in ho
  have hlt := path_lt h hl ho
  refine ⟨fun l hm => ?_, ?_, fun l hm j hj => ?_⟩
  · rcases List.mem_append.1 hm with hm | hm
    · exact h.l l hm
    · rw [List.mem_singleton.1 hm]; exact ⟨⟨⟨by dsimp only; omega, by dsimp only; omega⟩, hv⟩, rfl⟩
  · rw [List.pairwise_append]
    refine ⟨h.s, .cons (fun _ h => (by cases h)) .nil, fun a ha b hb => ?_⟩
    rw [List.mem_singleton.1 hb]; exact hlt a ha
  · have hj2 : (j : Int) ≤ opI d := by
      rcases List.mem_append.1 hm with hm | hm
      · have := hlt l hm; omega
      · rw [List.mem_singleton.1 hm] at hj; exact hj
    by_cases e : j = (opI d).toNat
    · subst e
      rw [show (d.set (opI d).toNat (ishl 1 v)).getD (opI d).toNat 0 = ishl 1 v from by simp [List.getD, (by omega : (opI d).toNat < d.length)], valsI_one hv]
      simp
    · have e' : (opI d).toNat ≠ j := fun h => e h.symm
      rw [show (d.set (opI d).toNat (ishl 1 v)).getD j 0 = d.getD j 0 from by simp [List.getD, List.getElem?_set, e']]
      exact open_first ho (by omega)
theorem path_len {n : Nat} {ds : List Int} {cl : List Lit} (h : PathOk n ds cl) : cl.length ≤ n := by
  have hn : (cl.map (fun l => l.var.toNat)).Nodup := by
    rw [List.nodup_iff_pairwise_ne, List.pairwise_map]
    refine (List.Pairwise.imp_of_mem ?_ h.s)
    intro a b ha hb hab e
    have h1 := ((h.l a ha).1).1
    have h2 := ((h.l b hb).1).1
    omega
  have hs : (cl.map (fun l => l.var.toNat)) ⊆ List.range n := fun x hx => by
    obtain ⟨l, hl, rfl⟩ := List.mem_map.1 hx
    have := ((h.l l hl).1).1
    exact List.mem_range.2 (by omega)
  have := List.Nodup.length_le_of_subset hn hs
  simpa using this
theorem path_room {n k : Nat} {d : List Int} {cl : List Lit} (h : PathOk n d cl) (hl : d.length = n) (ho : ¬ opI d < 0) (hk : k + cl.length = n) : ∃ j, k = j + 1 := by
  have h1 := op_in ho
  have h2 := path_lt h hl ho
  have h3 := path_len (path_child (v := 0) h hl ho (by decide))
  rw [List.length_append] at h3
  simp at h3
  exact ⟨k - 1, by omega⟩
theorem path_childN {n i : Nat} {d : List Int} {cl : List Lit} {v : Int} (h : PathOk n d cl) (hl : d.length = n) (e : opI d = (i : Int)) (hv : 0 ≤ v ∧ v ≤ 5) : PathOk n (d.set i (ishl 1 v)) (cl ++ [⟨(i : Int), v, true⟩]) := by
  have := path_child h hl (by omega : ¬ opI d < 0) hv
  rw [e] at this
  exact this
theorem chR_eq {k i : Nat} {m : Mod} {d : List Int} {cl : List Lit} {v : Int} (e : opI d = (i : Int)) : chR k m d cl v = refF k m (d.set i (ishl 1 v)) (cl ++ [⟨(i : Int), v, true⟩]) := by
  unfold chR; rw [e]; rfl
/-! At most two hundred steps. -/
structure LimR (st : List (List Lit)) (r : List (List Lit) × Bool) (s2 : List (List Lit)) (o2 : Bool) : Prop where
  n : s2.length ≤ 200
  o : o2 = (r.2 && decide (st.length + r.1.length ≤ 200))
  e : o2 = true → s2 = st ++ r.1
theorem lim_leaf {st : List (List Lit)} (h : st.length ≤ 200) : LimR st ([], false) st false := ⟨h, rfl, fun h => (by cases h)⟩
theorem lim_0 {st : List (List Lit)} {cl : List Lit} {o : Bool} (c : (o && decide ((st.length : Int) < 200)) = true) : LimR st ([cl], true) (st ++ [cl]) o := by
  simp only [Bool.and_eq_true, decide_eq_true_eq] at c
  obtain ⟨rfl, c⟩ := c
  exact ⟨by simp; omega, by simp; omega, fun _ => rfl⟩
theorem lim_0F {st : List (List Lit)} {cl : List Lit} {o : Bool} (h : st.length ≤ 200) (ho : o = true) (c : (o && decide ((st.length : Int) < 200)) = false) : LimR st ([cl], true) st false := by
  subst ho
  simp only [Bool.true_and, decide_eq_false_iff_not] at c
  exact ⟨h, by simp; omega, fun h => (by cases h)⟩
theorem lim_init {f : Int → List (List Lit) × Bool} {vs : List Int} {st : List (List Lit)} {o : Bool} (h : st.length ≤ 200) (ho : o = true) : LimR st (foldR f (vs.take 0)) st o := by
  subst ho; exact ⟨h, by simp [foldR]; omega, fun _ => by simp [foldR]⟩
theorem lim_step {f : Int → List (List Lit) × Bool} {vs : List Int} {q : Nat} {st s1 s2 : List (List Lit)} {o1 o2 : Bool} (hq : q < vs.length) (ho : o1 = true) (h : LimR st (foldR f (vs.take q)) s1 o1) (g : LimR s1 (f (vs.getD q 0)) s2 o2) : LimR st (foldR f (vs.take (q + 1))) s2 o2 := by
  subst ho
  have h1 := h.o
  have h2 : (foldR f (vs.take q)).2 = true := by
    cases e : (foldR f (vs.take q)).2 with
    | true => rfl
    | false => rw [e] at h1; simp at h1
  have h3 := h.e rfl
  rw [foldR_step hq h2]
  refine ⟨g.n, ?_, fun h9 => ?_⟩
  · rw [g.o, h3]
    simp only [List.length_append, Nat.add_assoc]
  · rw [g.e h9, h3, List.append_assoc]
theorem lim_all {f : Int → List (List Lit) × Bool} {vs : List Int} {q : Nat} {st s1 : List (List Lit)} {o1 : Bool} (h : LimR st (foldR f (vs.take q)) s1 o1) (c : (decide ((q : Int) < (vs.length : Int)) && o1) = false) : LimR st (foldR f vs) s1 o1 := by
  by_cases hq : vs.length ≤ q
  · rw [List.take_of_length_le hq] at h; exact h
  · have ho : o1 = false := by
      have : decide ((q : Int) < (vs.length : Int)) = true := by simp; omega
      rw [this] at c; simpa using c
    subst ho
    refine ⟨h.n, ?_, fun h => (by cases h)⟩
    have h1 := h.o
    cases e : (foldR f (vs.take q)).2 with
    | false => rw [foldR_hit e, e]; rfl
    | true =>
      rw [e] at h1
      have h2 : foldR f vs = foldR f (vs.take q ++ vs.drop q) := by rw [List.take_append_drop]
      rw [h2, foldR_app f _ _ e]
      simp at h1 ⊢
      intro _
      omega
theorem lim_go {q n : Nat} {o : Bool} (h : (decide ((q : Int) < (n : Int)) && o) = true) : q < n ∧ o = true := by simpa using h
theorem lim_T {r : List (List Lit) × Bool} {cl : List Lit} {st s1 : List (List Lit)} {o1 : Bool} (h : LimR st r s1 o1) (c : (o1 && decide ((s1.length : Int) < 200)) = true) : LimR st (endR cl r) (s1 ++ [cl]) o1 := by
  simp only [Bool.and_eq_true, decide_eq_true_eq] at c
  obtain ⟨rfl, c⟩ := c
  have h1 := h.o
  have h2 := h.e rfl
  have h3 : r.2 = true := by
    cases e : r.2 with
    | true => rfl
    | false => rw [e] at h1; simp at h1
  unfold endR
  rw [if_pos h3]
  refine ⟨by simp; omega, ?_, fun _ => by rw [h2, List.append_assoc]⟩
  rw [h2] at c
  simp at c ⊢
  omega
theorem lim_F {r : List (List Lit) × Bool} {cl : List Lit} {st s1 : List (List Lit)} {o1 : Bool} (h : LimR st r s1 o1) (c : (o1 && decide ((s1.length : Int) < 200)) = false) : LimR st (endR cl r) s1 false := by
  refine ⟨h.n, ?_, fun h => (by cases h)⟩
  have h1 := h.o
  unfold endR
  cases e : r.2 with
  | false => rw [if_neg (by simp)]; rfl
  | true =>
    rw [if_pos rfl]
    rw [e] at h1
    cases o1 with
    | false => simp at h1 ⊢; omega
    | true =>
      have h2 := h.e rfl
      rw [h2] at c
      simp at c ⊢
      omega
def limO (r : List (List Lit) × Bool) : List (List Lit) × Bool := if r.2 = true ∧ r.1.length ≤ 200 then (r.1, true) else ([], false)
theorem lim_no {r : List (List Lit) × Bool} {s : List (List Lit)} {o : Bool} (h : LimR [] r s o) (ho : o = false) : ([], false) = limO r := by
  have h1 := h.o
  rw [ho] at h1
  unfold limO
  rw [if_neg]
  rintro ⟨h2, h3⟩
  rw [h2] at h1
  simp at h1
  omega
theorem lim_yes {r : List (List Lit) × Bool} {s : List (List Lit)} {o : Bool} (h : LimR [] r s o) (ho : o = true) : (s, true) = limO r := by
  subst ho
  have h1 := h.o
  have h2 := h.e rfl
  unfold limO
  have h3 : r.2 = true ∧ r.1.length ≤ 200 := by
    cases e : r.2 with
    | false => rw [e] at h1; simp at h1
    | true => rw [e] at h1; simp at h1; exact ⟨rfl, by omega⟩
  rw [if_pos h3, h2]
  simp
def infR (m : Mod) : List (List Lit) × Bool := if validModB m = true then limO (refF m.doms.length m m.doms []) else ([], false)
theorem inf_v {m : Mod} (h : validModB m = true) : infR m = limO (refF m.doms.length m m.doms []) := if_pos h
theorem inf_nv {m : Mod} (h : validModB m = false) : infR m = ([], false) := by unfold infR; rw [if_neg (by rw [h]; simp)]
def pbR (m : Mod) (obj : List Int) (b : Int) : List (List Lit) × Bool := if (bdR m obj b).2 = true then infR (bdR m obj b).1 else ([], false)
theorem pb_no {m : Mod} {obj : List Int} {b : Int} (h : (bdR m obj b).2 = false) : pbR m obj b = ([], false) := by unfold pbR; rw [if_neg (by rw [h]; simp)]
theorem pb_yes {m : Mod} {obj : List Int} {b : Int} (h : (bdR m obj b).2 = true) : pbR m obj b = infR (bdR m obj b).1 := if_pos h
/-! One more literal, behind all. -/
theorem path_lit {a : List Lit} {i v : Int} (h : ∀ l ∈ a, l.var < i) : ∀ l ∈ a, litLt l (List.getD [(⟨i, v, true⟩ : Lit)] 0 nilLit) = true := fun l hl => by
  have := h l hl
  show litLt l ⟨i, v, true⟩ = true
  rw [← litLt_1 (by dsimp only; omega)]
  exact decide_eq_true this
theorem mc_exit {a b out : List Lit} {j k : Nat} (h : out = a ++ b.take k) (hk : k < b.length) (ho : b.length = 1) (hlt : ∀ l ∈ a, litLt l (b.getD 0 nilLit) = true) (hj : j ≤ out.length) (c : (decide ((j : Int) < (out.length : Int)) && litLt (out.getD j nilLit) (b.getD k nilLit)) = false) : j = out.length ∧ k = 0 ∧ out = a := by
  have hk0 : k = 0 := by omega
  subst hk0
  have e : out = a := by rw [h]; simp
  refine ⟨?_, rfl, e⟩
  by_cases hl : j < out.length
  · have h1 : decide ((j : Int) < (out.length : Int)) = true := by simp; omega
    have h2 := hlt (out.getD j nilLit) (by rw [← e]; exact getD_mem hl)
    rw [h1, h2] at c
    simp at c
  · omega
theorem mc_one {b : List Lit} (ho : b.length = 1) : b.take 1 = [b.getD 0 nilLit] := by
  obtain ⟨x, rfl⟩ := List.length_eq_one_iff.1 ho
  rfl
end
section
/-- No constraint changes these domains, and none is empty. -/
structure FixC (m : Mod) (F : List Int) : Prop where
  ok : DOk m.doms.length F
  z : F.contains 0 = false
  c : consB m.cons F = true
def FixU (cls : List (List Lit)) (F : List Int) : Prop := ∀ c ∈ cls, unitL c F = F
theorem unitA_fix {n : Nat} : ∀ {cls : List (List Lit)} {d : List Int}, DOk n d → ClsIn n cls → unitA cls d = d → FixU cls d
  | [], _, _, _, _ => fun _ h => (by cases h)
  | c :: cs, d, hd, h, e => by
    have h1 := unit_ok hd (h c (.head _))
    have h2 := unitA_ok (cls := cs) h1.1 (fun k hk => h k (.tail _ hk))
    have e1 : unitA cs (unitL c d) = d := e
    have e2 : unitL c d = d := by
      by_cases hne : unitL c d = d
      · exact hne
      · have a := h1.2.lt h1.1.d hd.d hne
        have b := h2.2.sum h2.1.d h1.1.d
        rw [e1] at b; omega
    rw [e2] at e1
    intro k hk
    rcases List.mem_cons.1 hk with rfl | hk
    · exact e2
    · exact unitA_fix hd (fun k hk => h k (.tail _ hk)) e1 k hk
theorem stepW_fix {m : Mod} {cls : List (List Lit)} {d : List Int} (hM : MOk m) (hd : DOk m.doms.length d) (hc : ClsIn m.doms.length cls) (hz : d.contains 0 = false) (e : stepW m cls d = d) : FixC m d ∧ FixU cls d := by
  have hp := propOk hM hd
  have h2 := unitA_ok hp.ok hc
  have e2 : unitA cls (prop m d) = d := e
  have e1 : prop m d = d := by
    by_cases hne : prop m d = d
    · exact hne
    · have a := hp.sub.lt hp.ok.d hd.d hne
      have b := h2.2.sum h2.1.d hp.ok.d
      rw [e2] at b; omega
  rw [e1] at e2
  have h3 := hp.fix
  rw [e1] at h3
  exact ⟨⟨hd, hz, h3.resolve_left (by rw [hz]; simp)⟩, unitA_fix hd hc e2⟩
theorem wcl_false {m : Mod} {cls : List (List Lit)} (hM : MOk m) (hc : ClsIn m.doms.length cls) : ∀ (k : Nat) {d : List Int}, sumN d = k → DOk m.doms.length d → (wcl m cls d).getD 0 0 ≠ 0 → ∃ F, FixC m F ∧ FixU cls F ∧ SubD F d := by
  intro k
  induction k using Nat.strongRecOn with
  | _ k ih =>
    intro d hk hd h
    cases h0 : d.contains 0 with
    | true => rw [wcl_0 h0, zeros_0] at h; exact absurd rfl h
    | false =>
      by_cases e : stepW m cls d = d
      · have := stepW_fix hM hd hc h0 e
        exact ⟨d, this.1, this.2, SubD.refl d⟩
      · rw [← wcl_step hM hd hc h0 e] at h
        have hs := stepW_ok hM hd hc
        obtain ⟨F, h1, h2, h3⟩ := ih _ (hk ▸ stepW_lt hM hd hc e) rfl hs.1 h
        exact ⟨F, h1, h2, h3.trans hs.2⟩
theorem nz_has {d e : Int} (hd : 0 ≤ d ∧ d ≤ 63) (he : 0 ≤ e ∧ e ≤ 63) : iand d e ≠ 0 ↔ ∃ v : Int, (0 ≤ v ∧ v ≤ 5) ∧ hasB d v = true ∧ hasB e v = true := by
  have h1 := and_has hd he
  constructor
  · intro h
    obtain ⟨v, hv⟩ := List.exists_mem_of_ne_nil _ (valsI_ne h1.1 h)
    have h2 := mem_valsI.1 hv
    have h3 := h2.2
    rw [h1.2 v h2.1, Bool.and_eq_true] at h3
    exact ⟨v, h2.1, h3⟩
  · rintro ⟨v, hv, h2, h3⟩ e
    have : v ∈ valsI (iand d _) := mem_valsI.2 ⟨hv, by rw [h1.2 v hv, h2, h3]; rfl⟩
    rw [e, valsI_0] at this; cases this
theorem FixC.ne {m : Mod} {F : List Int} (h : FixC m F) {i : Nat} (hi : i < m.doms.length) : ∃ v : Int, (0 ≤ v ∧ v ≤ 5) ∧ hasB (F.getD i 0) v = true := by
  have hi' : i < F.length := by rw [h.ok.l]; exact hi
  have h1 := h.ok.d.at hi'
  have h2 : F.getD i 0 ≠ 0 := fun e => by
    have h3 := getD_mem (d := (0 : Int)) hi'
    rw [e] at h3
    have h4 := List.contains_iff_mem.2 h3
    rw [h.z] at h4; cases h4
  obtain ⟨v, hv⟩ := List.exists_mem_of_ne_nil _ (valsI_ne h1 h2)
  exact ⟨v, mem_valsI.1 hv⟩
theorem FixC.nz {m : Mod} {F : List Int} (hM : MOk m) (h : FixC m F) : F ≠ zerosL F.length := fun e => by
  have hn := hM.n
  have h1 := h.z
  have h2 := zeros_all (d := F) hn.1 h.ok.l
  rw [← e, h1] at h2; cases h2
theorem opn_iff {n : Nat} {c : List Lit} {d : List Int} (hd : DOk n d) (hc : ClIn n c) {l : Lit} : l ∈ opnL c d ↔ l ∈ c ∧ ∃ v : Int, (0 ≤ v ∧ v ≤ 5) ∧ hasB (d.getD l.var.toNat 0) v = true ∧ hasB (truesI l) v = true := by
  unfold opnL
  rw [List.mem_filter]
  refine and_congr_right fun hl => ?_
  have h1 := hc l hl
  have h0 := h1.1
  rw [decide_eq_true_eq]
  exact nz_has (hd.d.at (by rw [hd.l]; omega)) (trues_ok h1.2)
theorem opn_T1 {l : Lit} {d : List Int} (h : iand (d.getD l.var.toNat 0) (truesI l) ≠ 0) : opnL [l] d = [l] := by
  unfold opnL; rw [List.filter_cons, if_pos (decide_eq_true h)]; rfl
theorem opn_F1 {l : Lit} {d : List Int} (h : ¬ iand (d.getD l.var.toNat 0) (truesI l) ≠ 0) : opnL [l] d = [] := by
  unfold opnL; rw [List.filter_cons, if_neg (by rw [decide_eq_false h]; simp)]; rfl
theorem opn_sub {n : Nat} {c : List Lit} {d e : List Int} (hd : DOk n d) (he : DOk n e) (hc : ClIn n c) (hs : SubD e d) : opnL c e = opnL (opnL c d) e := by
  unfold opnL
  rw [List.filter_filter]
  refine List.filter_congr fun l hl => ?_
  have h1 := hc l hl
  have h0 := h1.1
  have hi : l.var.toNat < d.length := by rw [hd.l]; omega
  by_cases h : iand (e.getD l.var.toNat 0) (truesI l) ≠ 0
  · obtain ⟨v, hv, h2, h3⟩ := (nz_has (he.d.at (by rw [he.l]; omega)) (trues_ok h1.2)).1 h
    have h4 := (nz_has (hd.d.at hi) (trues_ok h1.2)).2 ⟨v, hv, hs.2 _ hi v hv h2, h3⟩
    rw [decide_eq_true h, decide_eq_true h4]; rfl
  · rw [decide_eq_false h]; simp
theorem unit_mono {m : Mod} {c : List Lit} {F d : List Int} (hM : MOk m) (hF : FixC m F) (hd : DOk m.doms.length d) (hc : ClIn m.doms.length c) (hs : SubD F d) (hu : unitL c F = F) : SubD F (unitL c d) := by
  have e := opn_sub hd hF.ok hc hs
  match h : opnL c d with
  | [] =>
    rw [h] at e
    have := unit_0 e
    rw [hu] at this
    exact absurd this (hF.nz hM)
  | [l] =>
    have hl := hc l (opn_mem (by rw [h]; exact .head _))
    rw [h] at e
    rw [unit_1 h]
    have hF1 : setT F l = F := by
      by_cases h1 : iand (F.getD l.var.toNat 0) (truesI l) ≠ 0
      · rw [← unit_1 (c := c) (l := l) (e.trans (opn_T1 h1))]; exact hu
      · have h2 : opnL [l] F = [] := opn_F1 h1
        rw [h2] at e
        have := unit_0 e
        rw [hu] at this
        exact absurd this (hF.nz hM)
    refine ⟨by rw [setT_len]; exact hs.1, fun i hi v hv h3 => ?_⟩
    rw [setT_len, hd.l] at hi
    rw [setT_has hd hl hi hv, hs.2 i (by rw [hd.l]; exact hi) v hv h3, Bool.true_and]
    rw [← hF1, setT_has hF.ok hl hi hv, Bool.and_eq_true] at h3
    exact h3.2
  | a :: b :: r => rw [unit_2 (by rw [h]; simp)]; exact hs
theorem unitA_mono {m : Mod} {F : List Int} (hM : MOk m) (hF : FixC m F) : ∀ {cls : List (List Lit)} {d : List Int}, DOk m.doms.length d → ClsIn m.doms.length cls → SubD F d → FixU cls F → SubD F (unitA cls d)
  | [], _, _, _, hs, _ => hs
  | c :: cs, d, hd, hc, hs, hu => by
    have h1 := unit_mono hM hF hd (hc c (.head _)) hs (hu c (.head _))
    exact unitA_mono hM hF (cls := cs) (unit_ok hd (hc c (.head _))).1 (fun k hk => hc k (.tail _ hk)) h1 (fun k hk => hu k (.tail _ hk))
theorem FixC.fix {m : Mod} {F : List Int} (hM : MOk m) (h : FixC m F) : filtA m F = F := (filtA_fix hM h.ok).2 h.c
theorem FixC.prop {m : Mod} {F d : List Int} (hM : MOk m) (h : FixC m F) (hd : DOk m.doms.length d) (hs : SubD F d) : SubD F (prop m d) := prop_top hM h.ok (h.fix hM) h.z _ rfl hd hs
theorem FixC.has {m : Mod} {F d : List Int} (h : FixC m F) (hd : DOk m.doms.length d) (hs : SubD F d) : d.contains 0 = false := by
  cases h0 : d.contains 0 with
  | false => rfl
  | true =>
    exfalso
    obtain ⟨i, hi, h1⟩ := List.getElem_of_mem (List.contains_iff_mem.1 h0)
    have h2 : d.getD i 0 = 0 := by simp [List.getD, hi, h1]
    obtain ⟨v, hv, h3⟩ := h.ne (i := i) (by rw [← hd.l]; exact hi)
    have h4 : v ∈ valsI (d.getD i 0) := mem_valsI.2 ⟨hv, hs.2 i hi v hv h3⟩
    rw [h2, valsI_0] at h4; cases h4
theorem wcl_top {m : Mod} {cls : List (List Lit)} {F : List Int} (hM : MOk m) (hc : ClsIn m.doms.length cls) (hF : FixC m F) (hu : FixU cls F) : ∀ (k : Nat) {d : List Int}, sumN d = k → DOk m.doms.length d → SubD F d → SubD F (wcl m cls d) := by
  intro k
  induction k using Nat.strongRecOn with
  | _ k ih =>
    intro d hk hd hs
    have h0 := hF.has hd hs
    by_cases e : stepW m cls d = d
    · rw [wcl_fix h0 e]; exact hs
    · rw [← wcl_step hM hd hc h0 e]
      exact ih _ (hk ▸ stepW_lt hM hd hc e) rfl (stepW_ok hM hd hc).1 (unitA_mono hM hF (propOk hM hd).ok hc (hF.prop hM hd hs) hu)
/-- A refutation fails if and only if something is left. -/
theorem rf_iff {m : Mod} {cls : List (List Lit)} {d : List Int} (hM : MOk m) (hc : ClsIn m.doms.length cls) (hd : DOk m.doms.length d) : rfE m cls d = false ↔ ∃ F, FixC m F ∧ FixU cls F ∧ SubD F d := by
  unfold rfE
  rw [decide_eq_false_iff_not]
  constructor
  · exact wcl_false hM hc _ rfl hd
  · rintro ⟨F, h1, h2, h3⟩ e
    have hn := hM.n
    have h4 := wcl_top hM hc h1 h2 _ rfl hd h3
    obtain ⟨v, hv, h5⟩ := h1.ne (i := 0) (by omega)
    have h6 : v ∈ valsI ((wcl m cls d).getD 0 0) := mem_valsI.2 ⟨hv, h4.2 0 (by rw [← h4.1, h1.ok.l]; omega) v hv h5⟩
    rw [e, valsI_0] at h6; cases h6
theorem imp_iff {m : Mod} {cls : List (List Lit)} {c : List Lit} (hM : MOk m) (hc : ClsIn m.doms.length cls) (h : ClIn m.doms.length c) : impB m cls c = false ↔ ∃ F, FixC m F ∧ FixU cls F ∧ SubD F (rstN m.doms c) :=
  rf_iff hM hc (rstL_ok hM.dok (negs_in h)).1
theorem rstN_ok {n : Nat} {d : List Int} {c : List Lit} (hd : DOk n d) (hc : ClIn n c) : DOk n (rstN d c) := (rstL_ok hd (negs_in hc)).1
theorem rstN_has {n : Nat} {d : List Int} {c : List Lit} (hd : DOk n d) (hc : ClIn n c) {i : Nat} (hi : i < n) {v : Int} (hv : 0 ≤ v ∧ v ≤ 5) : hasB ((rstN d c).getD i 0) v = true ↔ hasB (d.getD i 0) v = true ∧ ∀ l ∈ c, i = l.var.toNat → hasB (truesI (negL l)) v = true := by
  unfold rstN
  rw [rstL_has hi hv hd (negs_in hc), Bool.and_eq_true, List.all_eq_true]
  refine and_congr_right fun _ => ?_
  constructor
  · intro h l hl e
    have := h (negL l) (List.mem_map.2 ⟨l, hl, rfl⟩)
    rw [Bool.or_eq_true] at this
    rcases this with h1 | h1
    · rw [show (negL l).var = l.var from rfl, decide_eq_true e] at h1; cases h1
    · exact h1
  · intro h k hk
    obtain ⟨l, hl, rfl⟩ := List.mem_map.1 hk
    rw [Bool.or_eq_true]
    by_cases e : i = l.var.toNat
    · exact .inr (h l hl e)
    · left; rw [show (negL l).var = l.var from rfl, decide_eq_false e]; rfl
theorem neg_no {l : Lit} {v : Int} (hl : 0 ≤ l.val ∧ l.val ≤ 5) (hv : 0 ≤ v ∧ v ≤ 5) : hasB (truesI (negL l)) v = !(hasB (truesI l) v) := by
  rw [trues_has (l := negL l) hl hv, trues_has hl hv]
  show (decide (v = l.val) != !l.neg) = !(decide (v = l.val) != l.neg)
  cases decide (v = l.val) <;> cases l.neg <;> rfl
/-! What accepted proofs say. -/
/-! The bound. -/
/-! A written proof is accepted. -/
def Inv (m : Mod) (ds : List Int) (cl : List Lit) : Prop := ∀ F, FixC m F → SubD F (rstN m.doms cl) → SubD F ds
theorem fold_ok {f : Int → List (List Lit) × Bool} : ∀ {vs : List Int}, (foldR f vs).2 = true → ∀ v ∈ vs, (f v).2 = true ∧ ∀ c ∈ (f v).1, c ∈ (foldR f vs).1
  | [], _, _, hv => (by cases hv)
  | u :: vs, h, v, hv => by
    rw [foldR] at h ⊢
    split at h
    · rename_i h1
      rw [if_pos h1]
      rcases List.mem_cons.1 hv with rfl | hv
      · exact ⟨h1, fun c hc => List.mem_append_left _ hc⟩
      · have := fold_ok (vs := vs) h v hv
        exact ⟨this.1, fun c hc => List.mem_append_right _ (this.2 c hc)⟩
    · cases h
theorem ref_end {m : Mod} : ∀ {k : Nat} {ds : List Int} {cl : List Lit}, (refF k m ds cl).2 = true → ∃ s, (refF k m ds cl).1 = s ++ [cl] := by
  intro k ds cl h
  cases h0 : (prop m ds).contains 0 with
  | true => rw [ref_0 h0]; exact ⟨[], rfl⟩
  | false =>
    by_cases ho : opI (prop m ds) < 0
    · rw [ref_leaf h0 ho] at h; cases h
    · cases k with
      | zero => unfold refF at h; rw [if_neg (by rw [h0]; simp)] at h; cases h
      | succ k =>
        rw [ref_node h0 ho] at h ⊢
        unfold endR at h ⊢
        split at h
        · rename_i h1; rw [if_pos h1]; exact ⟨_, rfl⟩
        · cases h
theorem rst_snoc {m : Mod} {cl : List Lit} {l : Lit} : rstN m.doms (cl ++ [l]) = setT (rstN m.doms cl) (negL l) := by
  unfold rstN rstL; rw [List.map_append, List.foldl_append]; rfl
structure Acc (m : Mod) (pre s : List (List Lit)) : Prop where
  c : ∀ i, i < s.length → impB m (pre ++ s.take i) (s.getD i []) = true
theorem Acc.app {m : Mod} {pre a b : List (List Lit)} (h1 : Acc m pre a) (h2 : Acc m (pre ++ a) b) : Acc m pre (a ++ b) := ⟨fun i hi => by
  rw [List.length_append] at hi
  by_cases h : i < a.length
  · have := h1.c i h
    rw [List.take_append_of_le_length (by omega), show (a ++ b).getD i [] = a.getD i [] from by simp [List.getD, List.getElem?_append_left h]]
    exact this
  · have := h2.c (i - a.length) (by omega)
    rw [List.take_append, List.take_of_length_le (by omega : a.length ≤ i), ← List.append_assoc, show (a ++ b).getD i [] = b.getD (i - a.length) [] from by simp [List.getD, List.getElem?_append_right (by omega : a.length ≤ i)]]
    exact this⟩
theorem Acc.one {m : Mod} {pre : List (List Lit)} {c : List Lit} (h : impB m pre c = true) : Acc m pre [c] := ⟨fun i hi => by
  have : i = 0 := by simpa using hi
  subst this; simpa using h⟩
theorem Acc.nil {m : Mod} {pre : List (List Lit)} : Acc m pre [] := ⟨fun i hi => (by simp at hi)⟩
theorem cls_app {n : Nat} {a b : List (List Lit)} (h1 : ClsIn n a) (h2 : ClsIn n b) : ClsIn n (a ++ b) := fun c hc => (List.mem_append.1 hc).elim (h1 c) (h2 c)
theorem path_cl {n : Nat} {ds : List Int} {cl : List Lit} (h : PathOk n ds cl) : ClIn n cl := fun l hl => (h.l l hl).1
/-- What is fixed on the way: the clause of a node is refuted by what its children left. -/
theorem node_ref {m : Mod} {pre : List (List Lit)} {ds : List Int} {cl : List Lit} (hM : MOk m) (hp : ClsIn m.doms.length pre) (hd : DOk m.doms.length ds) (hpa : PathOk m.doms.length ds cl) (hi : Inv m ds cl) (h0 : (prop m ds).contains 0 = false) (ho : ¬ opI (prop m ds) < 0) (hch : ∀ v ∈ valsI ((prop m ds).getD (opI (prop m ds)).toNat 0), cl ++ [⟨opI (prop m ds), v, true⟩] ∈ pre) : impB m pre cl = true := by
  cases h : impB m pre cl with
  | true => rfl
  | false =>
    exfalso
    have hcl := path_cl hpa
    obtain ⟨F, f1, f2, f3⟩ := (imp_iff hM hp hcl).1 h
    have hP := propOk hM hd
    have f4 := f1.prop hM hd (hi F f1 f3)
    have hpin := op_in ho
    have hin : (opI (prop m ds)).toNat < m.doms.length := by rw [← hP.ok.l]; omega
    obtain ⟨v, hv, h1⟩ := f1.ne hin
    have h2 : v ∈ valsI ((prop m ds).getD (opI (prop m ds)).toNat 0) := mem_valsI.2 ⟨hv, f4.2 _ (by rw [hP.ok.l]; exact hin) v hv h1⟩
    have hk := hch v h2
    have hu := f2 _ hk
    have hlv : LitIn m.doms.length ⟨opI (prop m ds), v, true⟩ := ⟨⟨by dsimp only; omega, by dsimp only; rw [← hP.ok.l]; omega⟩, hv⟩
    have e1 : opnL cl F = [] := by
      rw [List.eq_nil_iff_forall_not_mem]
      intro l hl
      obtain ⟨hl, w, hw, h3, h4⟩ := (opn_iff f1.ok hcl).1 hl
      have hli := hcl l hl
      have hlt : l.var.toNat < m.doms.length := by have := hli.1; omega
      have h5 := f3.2 l.var.toNat (by rw [(rstN_ok hM.dok hcl).l]; exact hlt) w hw h3
      have h6 := ((rstN_has hM.dok hcl hlt hw).1 h5).2 l hl rfl
      rw [neg_no hli.2 hw, h4] at h6; cases h6
    have e2 : opnL (cl ++ [⟨opI (prop m ds), v, true⟩]) F = opnL [⟨opI (prop m ds), v, true⟩] F := by
      have : opnL (cl ++ [⟨opI (prop m ds), v, true⟩]) F = opnL cl F ++ opnL [⟨opI (prop m ds), v, true⟩] F := by unfold opnL; rw [List.filter_append]
      rw [this, e1, List.nil_append]
    by_cases h5 : iand (F.getD (opI (prop m ds)).toNat 0) (truesI ⟨opI (prop m ds), v, true⟩) ≠ 0
    · have e3 : opnL [⟨opI (prop m ds), v, true⟩] F = [⟨opI (prop m ds), v, true⟩] := opn_T1 (l := ⟨opI (prop m ds), v, true⟩) h5
      rw [unit_1 (e2.trans e3)] at hu
      have h8 := setT_has f1.ok hlv hin hv
      rw [hu, h1, Bool.true_and] at h8
      have h6 : hasB (truesI ⟨opI (prop m ds), v, true⟩) v = true := by simpa using h8.symm
      rw [trues_has (l := ⟨opI (prop m ds), v, true⟩) hv hv] at h6
      simp at h6
    · have e3 : opnL [⟨opI (prop m ds), v, true⟩] F = [] := opn_F1 (l := ⟨opI (prop m ds), v, true⟩) h5
      rw [unit_0 (e2.trans e3)] at hu
      exact f1.nz hM hu.symm
theorem inv_child {m : Mod} {ds : List Int} {cl : List Lit} {v : Int} (hM : MOk m) (hd : DOk m.doms.length ds) (hpa : PathOk m.doms.length ds cl) (hi : Inv m ds cl) (ho : ¬ opI (prop m ds) < 0) (hv : 0 ≤ v ∧ v ≤ 5) : Inv m ((prop m ds).set (opI (prop m ds)).toNat (ishl 1 v)) (cl ++ [⟨opI (prop m ds), v, true⟩]) := fun F f1 f3 => by
  have hP := propOk hM hd
  have hpin := op_in ho
  have hcl := path_cl hpa
  have hlv : LitIn m.doms.length ⟨opI (prop m ds), v, true⟩ := ⟨⟨by dsimp only; omega, by dsimp only; rw [← hP.ok.l]; omega⟩, hv⟩
  rw [rst_snoc] at f3
  have hok := rstN_ok hM.dok hcl
  have hst := setT_ok (l := negL ⟨opI (prop m ds), v, true⟩) hok hlv
  have f4 := f1.prop hM hd (hi F f1 (f3.trans hst.2))
  refine ⟨by rw [List.length_set]; exact f4.1, fun i hi2 w hw h9 => ?_⟩
  rw [List.length_set, hP.ok.l] at hi2
  by_cases e : i = (opI (prop m ds)).toNat
  · have h1 := f3.2 i (by rw [hst.1.l]; exact hi2) w hw h9
    have h2 := setT_has (d := rstN m.doms cl) (l := negL ⟨opI (prop m ds), v, true⟩) hok hlv hi2 hw
    rw [h1] at h2
    have h3 : hasB (truesI (negL ⟨opI (prop m ds), v, true⟩)) w = true := by
      have h4 := h2.symm
      rw [Bool.and_eq_true, Bool.or_eq_true] at h4
      rcases h4.2 with h5 | h5
      · rw [show (negL ⟨opI (prop m ds), v, true⟩).var = opI (prop m ds) from rfl, decide_eq_true e] at h5; cases h5
      · exact h5
    rw [neg_no (l := ⟨opI (prop m ds), v, true⟩) hv hw, trues_has (l := ⟨opI (prop m ds), v, true⟩) hv hw] at h3
    have e3 : w = v := by simpa using h3
    subst e3
    rw [show ((prop m ds).set (opI (prop m ds)).toNat (ishl 1 w)).getD i 0 = ishl 1 w from by rw [e]; simp [List.getD, (by rw [hP.ok.l, ← e]; exact hi2 : (opI (prop m ds)).toNat < (prop m ds).length)]]
    exact (mem_valsI.1 (by rw [valsI_one hv]; exact .head _ : w ∈ valsI (ishl 1 w))).2
  · have e' : (opI (prop m ds)).toNat ≠ i := fun h => e h.symm
    rw [show ((prop m ds).set (opI (prop m ds)).toNat (ishl 1 v)).getD i 0 = (prop m ds).getD i 0 from by simp [List.getD, List.getElem?_set, e']]
    exact f4.2 i (by rw [hP.ok.l]; exact hi2) w hw h9
/-- Clauses that the search writes are valid. -/
theorem path_clI {m : Mod} {ds : List Int} {cl : List Lit} (hM : MOk m) (h : PathOk m.doms.length ds cl) : clI (m.doms.length : Int) cl = true := by
  have hn := hM.n
  have hl := path_len h
  unfold clI clTo
  rw [Bool.and_eq_true, Bool.and_eq_true, List.all_eq_true]
  refine ⟨fun i hi => ?_, withinB_iff.2 (by omega), decide_eq_true (by omega)⟩
  have hi := List.mem_range.1 hi
  have h1 := (h.l _ (getD_mem (d := nilLit) hi)).1
  unfold clAt litOkB
  rw [Bool.and_eq_true, Bool.and_eq_true]
  refine ⟨⟨withinB_iff.2 (by have := h1.1; omega), withinB_iff.2 h1.2⟩, ?_⟩
  by_cases h0 : i = 0
  · subst h0; simp
  · have h2 := (List.pairwise_iff_getElem.1 h.s) (i - 1) i (by omega) hi (by omega)
    have e : litLt (cl.getD ((i : Int) - 1).toNat nilLit) (cl.getD i nilLit) = true := by
      rw [show ((i : Int) - 1).toNat = i - 1 from by omega, litLt_iff]
      left
      simpa [List.getD, hi, (by omega : i - 1 < cl.length)] using h2
    rw [e]; simp
theorem op_child {m : Mod} {ds : List Int} {cl : List Lit} {v : Int} (hM : MOk m) (hd : DOk m.doms.length ds) (hpa : PathOk m.doms.length ds cl) (ho : ¬ opI (prop m ds) < 0) (hv : 0 ≤ v ∧ v ≤ 5) : DOk m.doms.length ((prop m ds).set (opI (prop m ds)).toNat (ishl 1 v)) ∧ PathOk m.doms.length ((prop m ds).set (opI (prop m ds)).toNat (ishl 1 v)) (cl ++ [⟨opI (prop m ds), v, true⟩]) := by
  have hP := propOk hM hd
  refine ⟨⟨by rw [List.length_set]; exact hP.ok.l, fun d hm => ?_⟩, path_child (path_prop hM hd hpa) hP.ok.l ho hv⟩
  rcases List.mem_or_eq_of_mem_set hm with h | h
  · exact hP.ok.d d h
  · rw [h]; have := ishl_small hv; omega
theorem ref_acc {m : Mod} (hM : MOk m) : ∀ (k : Nat) {ds : List Int} {cl : List Lit} {pre : List (List Lit)}, DOk m.doms.length ds → PathOk m.doms.length ds cl → Inv m ds cl → ClsIn m.doms.length pre → (refF k m ds cl).2 = true →
    Acc m pre (refF k m ds cl).1 ∧ ∀ c ∈ (refF k m ds cl).1, ClIn m.doms.length c ∧ clI (m.doms.length : Int) c = true := by
  intro k
  induction k with
  | zero =>
    intro ds cl pre hd hpa hi hp h
    cases h0 : (prop m ds).contains 0 with
    | true =>
      rw [ref_0 h0]
      refine ⟨Acc.one ?_, fun c hc => by rw [List.mem_singleton.1 hc]; exact ⟨path_cl hpa, path_clI hM hpa⟩⟩
      cases h1 : impB m pre cl with
      | true => rfl
      | false =>
        exfalso
        obtain ⟨F, f1, f2, f3⟩ := (imp_iff hM hp (path_cl hpa)).1 h1
        have := f1.has (propOk hM hd).ok (f1.prop hM hd (hi F f1 f3))
        rw [h0] at this; cases this
    | false => unfold refF at h; rw [if_neg (by rw [h0]; simp)] at h; cases h
  | succ k ih =>
    intro ds cl pre hd hpa hi hp h
    cases h0 : (prop m ds).contains 0 with
    | true =>
      rw [ref_0 h0]
      refine ⟨Acc.one ?_, fun c hc => by rw [List.mem_singleton.1 hc]; exact ⟨path_cl hpa, path_clI hM hpa⟩⟩
      cases h1 : impB m pre cl with
      | true => rfl
      | false =>
        exfalso
        obtain ⟨F, f1, f2, f3⟩ := (imp_iff hM hp (path_cl hpa)).1 h1
        have := f1.has (propOk hM hd).ok (f1.prop hM hd (hi F f1 f3))
        rw [h0] at this; cases this
    | false =>
      by_cases ho : opI (prop m ds) < 0
      · rw [ref_leaf h0 ho] at h; cases h
      · rw [ref_node h0 ho] at h ⊢
        have h2 : (foldR (chR k m (prop m ds) cl) (valsI ((prop m ds).getD (opI (prop m ds)).toNat 0))).2 = true := by
          unfold endR at h; split at h
          · assumption
          · cases h
        have hfold : ∀ (vs : List Int) (pre : List (List Lit)), (∀ v ∈ vs, 0 ≤ v ∧ v ≤ 5) → ClsIn m.doms.length pre → (foldR (chR k m (prop m ds) cl) vs).2 = true →
            Acc m pre (foldR (chR k m (prop m ds) cl) vs).1 ∧ ∀ c ∈ (foldR (chR k m (prop m ds) cl) vs).1, ClIn m.doms.length c ∧ clI (m.doms.length : Int) c = true := by
          intro vs
          induction vs with
          | nil => intro pre _ _ _; exact ⟨Acc.nil, fun _ h => (by cases h)⟩
          | cons v vs ihv =>
            intro pre hvs hp h
            rw [foldR] at h ⊢
            split at h
            · rename_i h3
              rw [if_pos h3]
              have hv := hvs v (.head _)
              have hc := op_child hM hd hpa ho hv
              have a1 := ih (pre := pre) hc.1 hc.2 (inv_child hM hd hpa hi ho hv) hp h3
              have a2 := ihv (pre ++ (chR k m (prop m ds) cl v).1) (fun u hu => hvs u (.tail _ hu)) (cls_app hp (fun c hc => (a1.2 c hc).1)) h
              refine ⟨a1.1.app a2.1, fun c hc => ?_⟩
              rcases List.mem_append.1 hc with hc | hc
              · exact a1.2 c hc
              · exact a2.2 c hc
            · cases h
        have hf := hfold _ pre (fun v hv => valsI_mem hv) hp h2
        unfold endR
        rw [if_pos h2]
        refine ⟨hf.1.app (Acc.one (node_ref hM (cls_app hp (fun c hc => (hf.2 c hc).1)) hd hpa hi h0 ho (fun v hv => ?_))), fun c hc => ?_⟩
        · have h3 := fold_ok h2 v hv
          obtain ⟨s, e⟩ := ref_end h3.1
          refine List.mem_append_right _ (h3.2 _ ?_)
          show cl ++ [⟨opI (prop m ds), v, true⟩] ∈ (refF k m ((prop m ds).set (opI (prop m ds)).toNat (ishl 1 v)) (cl ++ [⟨opI (prop m ds), v, true⟩])).1
          have e2 : (refF k m ((prop m ds).set (opI (prop m ds)).toNat (ishl 1 v)) (cl ++ [⟨opI (prop m ds), v, true⟩])).1 = s ++ [cl ++ [⟨opI (prop m ds), v, true⟩]] := e
          rw [e2]; exact List.mem_append_right _ (.head _)
        · rcases List.mem_append.1 hc with hc | hc
          · exact hf.2 c hc
          · rw [List.mem_singleton.1 hc]; exact ⟨path_cl hpa, path_clI hM hpa⟩
/-! What the laws' walks ask. -/
/-! The optimum. -/
end
section
theorem nb_T {b : Bool} (h : (!b) = true) : b = false := by simpa using h
theorem nb_F {b : Bool} (h : (!b) = false) : b = true := by simpa using h
/-- How many steps at most. -/
def tN : Nat → Nat
  | 0 => 1
  | k + 1 => 1 + 6 * tN k
theorem tN_pos : ∀ k, 1 ≤ tN k
  | 0 => Nat.le_refl _
  | k + 1 => by unfold tN; omega
theorem tN_le {k : Nat} (h : k ≤ 4) : tN k ≤ 1555 := by
  have key : ∀ k, k < 5 → tN k ≤ 1555 := by decide +kernel
  exact key k (by omega)
theorem foldR_len {f : Int → List (List Lit) × Bool} {B : Nat} : ∀ {vs : List Int}, (∀ v ∈ vs, (f v).1.length ≤ B) → (foldR f vs).1.length ≤ vs.length * B
  | [], _ => by simp [foldR]
  | v :: vs, h => by
    have h1 := h v (.head _)
    have h2 := foldR_len (vs := vs) (fun u hu => h u (.tail _ hu))
    rw [foldR]
    rw [List.length_cons, Nat.succ_mul]
    split
    · rw [List.length_append]; omega
    · dsimp only; omega
theorem ref_len {m : Mod} : ∀ {k : Nat} {ds : List Int} {cl : List Lit}, (refF k m ds cl).1.length ≤ tN k
  | 0, ds, cl => by unfold refF; split <;> simp [tN]
  | k + 1, ds, cl => by
    have hp := tN_pos k
    unfold refF
    split
    · simp [tN]
    · split
      · simp
      · have h1 := foldR_len (f := fun v => refF k m ((prop m ds).set (opI (prop m ds)).toNat (ishl 1 v)) (cl ++ [⟨opI (prop m ds), v, true⟩])) (B := tN k) (vs := valsI ((prop m ds).getD (opI (prop m ds)).toNat 0)) (fun v _ => ref_len)
        have h2 := membersTo_len ((prop m ds).getD (opI (prop m ds)).toNat 0) 6
        have h3 : (valsI ((prop m ds).getD (opI (prop m ds)).toNat 0)).length * tN k ≤ 6 * tN k := Nat.mul_le_mul_right _ (by simpa [valsI] using h2)
        unfold endR tN
        split
        · rw [List.length_append, List.length_singleton]; omega
        · dsimp only; omega
theorem rf_room {q s a t : Nat} (hq : q < 6) (h1 : s ≤ a + q * t) (h2 : a + (1 + 6 * t) ≤ 100000) : s + t ≤ 100000 := by
  have h3 : (q + 1) * t ≤ 6 * t := Nat.mul_le_mul_right _ (by omega)
  rw [Nat.add_mul, Nat.one_mul] at h3
  omega
theorem rf_ch {j : Nat} {m : Mod} {d : List Int} {pa : List Lit} {v : Int} (hle : iand (d.getD (Int.toNat (opI d)) 0) (ishl (1 : Int) v) = ishl 1 v) :
    refF j m (d.set (Int.toNat (opI d)) (iand (d.getD (Int.toNat (opI d)) 0) (ishl (1 : Int) v))) ((pa ++ [(⟨opI d, v, false⟩ : Lit)]).map negL) = chR j m d (pa.map negL) v := by
  rw [hle, List.map_append]; rfl
structure RfI (f : Int → List (List Lit) × Bool) (vs : List Int) (st : List (List Lit)) (t : Nat) (q : Nat) (s1 : List (List Lit)) : Prop where
  e : s1 = st ++ (foldR f (vs.take q)).1
  o : (foldR f (vs.take q)).2 = true
  n : s1.length ≤ st.length + q * t
theorem rfi_0 {f : Int → List (List Lit) × Bool} {vs : List Int} {st : List (List Lit)} {t : Nat} : RfI f vs st t 0 st := ⟨by simp [foldR], rfl, by omega⟩
theorem rfi_step {f : Int → List (List Lit) × Bool} {vs : List Int} {st s1 s2 : List (List Lit)} {t q : Nat} {r : List (List Lit) × Bool} (h : RfI f vs st t q s1) (hq : q < vs.length) (e : s2 = s1 ++ r.1) (er : r = f (vs.getD q 0)) (hb : r.2 = true) (hn : r.1.length ≤ t) : RfI f vs st t (q + 1) s2 := by
  have h1 := foldR_step hq h.o
  refine ⟨by rw [e, h.e, h1, er, List.append_assoc], by rw [h1, ← er]; exact hb, ?_⟩
  have := h.n
  rw [e, List.length_append, Nat.add_mul, Nat.one_mul]; omega
theorem rfi_no {k : Nat} {m : Mod} {ds : List Int} {cl : List Lit} {st s1 : List (List Lit)} {t q : Nat} {r : List (List Lit) × Bool} (hz : (prop m ds).contains 0 = false) (ho : ¬ opI (prop m ds) < 0)
    (h : RfI (chR k m (prop m ds) cl) (valsI ((prop m ds).getD (Int.toNat (opI (prop m ds))) 0)) st t q s1) (hq : q < (valsI ((prop m ds).getD (Int.toNat (opI (prop m ds))) 0)).length) (er : r = chR k m (prop m ds) cl ((valsI ((prop m ds).getD (Int.toNat (opI (prop m ds))) 0)).getD q 0)) (hb : r.2 = false) :
    false = (refF (k + 1) m ds cl).2 ∧ s1 ++ r.1 = st ++ (refF (k + 1) m ds cl).1 := by
  have h1 := foldR_step hq h.o
  rw [← er] at h1
  have h2 : (foldR (chR k m (prop m ds) cl) ((valsI ((prop m ds).getD (Int.toNat (opI (prop m ds))) 0)).take (q + 1))).2 = false := by rw [h1]; exact hb
  have h3 := foldR_hit h2
  rw [ref_node hz ho, h3, h1]
  unfold endR
  rw [if_neg (by rw [hb]; simp)]
  exact ⟨rfl, by rw [h.e, List.append_assoc]⟩
theorem rfi_yes {k : Nat} {m : Mod} {ds : List Int} {cl : List Lit} {st s1 : List (List Lit)} {t q : Nat} (hz : (prop m ds).contains 0 = false) (ho : ¬ opI (prop m ds) < 0)
    (h : RfI (chR k m (prop m ds) cl) (valsI ((prop m ds).getD (Int.toNat (opI (prop m ds))) 0)) st t q s1) (hq : (valsI ((prop m ds).getD (Int.toNat (opI (prop m ds))) 0)).length ≤ q) : true = (refF (k + 1) m ds cl).2 ∧ s1 ++ [cl] = st ++ (refF (k + 1) m ds cl).1 := by
  have h1 := h.e
  have h2 := h.o
  rw [List.take_of_length_le hq] at h1 h2
  rw [ref_node hz ho]
  unfold endR
  rw [if_pos h2]
  exact ⟨rfl, by rw [h1, List.append_assoc]⟩
theorem rfi_z {k : Nat} {m : Mod} {ds : List Int} {cl : List Lit} {st : List (List Lit)} (hz : (prop m ds).contains 0 = true) : true = (refF k m ds cl).2 ∧ st ++ [cl] = st ++ (refF k m ds cl).1 := by
  rw [ref_0 hz]; exact ⟨rfl, rfl⟩
theorem rfi_leaf {k : Nat} {m : Mod} {ds : List Int} {cl : List Lit} {st : List (List Lit)} (hz : (prop m ds).contains 0 = false) (ho : opI (prop m ds) < 0) : false = (refF k m ds cl).2 ∧ st = st ++ (refF k m ds cl).1 := by
  rw [ref_leaf hz ho]; exact ⟨rfl, by simp⟩
theorem rfi_b {f : Int → List (List Lit) × Bool} {vs : List Int} {st s1 : List (List Lit)} {j q : Nat} (h : RfI f vs st (tN j) q s1) (hq : q ≤ 6) (hs : st.length + tN (j + 1) ≤ 100000) : s1.length ≤ 100000 := by
  have h1 := h.n
  have h2 : q * tN j ≤ 6 * tN j := Nat.mul_le_mul_right _ hq
  unfold tN at hs
  omega
/-- Negated and sorted: the same order. -/
theorem neg_same {n : Nat} {ds : List Int} {pa ys : List Lit} (h : PathOk n ds (pa.map negL)) (hr : NegR pa ys) : ys = pa.map negL := by
  refine srt_unique (c := litCmp) (d := nilLit) (fun a b => litC_anti) hr.perm hr.srt (fun p q h1 h2 => ?_)
  intro h3
  have h4 := (List.pairwise_iff_getElem.1 h.s) p q (by omega) h2 h1
  rw [litC_iff, litLt_iff] at h3
  have e1 : (pa.map negL).getD p nilLit = (pa.map negL)[p]'(by omega) := by rw [List.getD_eq_getElem?_getD, List.getElem?_eq_getElem (by omega : p < (pa.map negL).length), Option.getD_some]
  have e2 : (pa.map negL).getD q nilLit = (pa.map negL)[q] := by rw [List.getD_eq_getElem?_getD, List.getElem?_eq_getElem h2, Option.getD_some]
  rw [e1, e2] at h3
  rcases h3 with h3 | ⟨h3, _⟩ <;> omega
theorem path_nd {n : Nat} {ds : List Int} {pa : List Lit} (h : PathOk n ds (pa.map negL)) : pa.Nodup := by
  have h1 := h.s
  rw [List.pairwise_map] at h1
  rw [List.nodup_iff_pairwise_ne]
  exact h1.imp fun h e => by rw [e] at h; omega
theorem path_plen {n : Nat} {ds : List Int} {pa : List Lit} (h : PathOk n ds (pa.map negL)) : pa.length ≤ n := by
  have := path_len h; simpa using this
theorem path_chI {n : Nat} {d : List Int} {pa : List Lit} {v : Int} (h : PathOk n d (pa.map negL)) (hl : d.length = n) (ho : ¬ opI d < 0) (hv : 0 ≤ v ∧ v ≤ 5) (hle : iand (d.getD (Int.toNat (opI d)) 0) (ishl (1 : Int) v) = ishl 1 v) :
    PathOk n (d.set (Int.toNat (opI d)) (iand (d.getD (Int.toNat (opI d)) 0) (ishl (1 : Int) v))) ((pa ++ [(⟨opI d, v, false⟩ : Lit)]).map negL) := by
  rw [hle, List.map_append]
  exact path_child h hl ho hv
theorem vals_len6 (d : Int) : (valsI d).length ≤ 6 := by have := membersTo_len d 6; simpa [valsI] using this
theorem inf_g {r : List (List Lit) × Bool} {b : Bool} (h : ((!r.2) || decide ((200 : Int) < (r.1.length : Int))) = b) : limO r = if b = true then ([], false) else (r.1, true) := by
  unfold limO
  subst h
  cases e : r.2 with
  | false => simp
  | true =>
    by_cases hn : r.1.length ≤ 200
    · rw [if_pos ⟨rfl, hn⟩]
      rw [if_neg]
      simp; omega
    · rw [if_neg (by simp; omega)]
      rw [if_pos]
      simp; omega
theorem inf_bad {m : Mod} (hM : MOk m) (h : ((!(refF m.doms.length m m.doms []).2) || decide ((200 : Int) < ((refF m.doms.length m m.doms []).1.length : Int))) = true) : infR m = ([], false) := by
  rw [inf_v hM.v, inf_g h]; rfl
theorem inf_good {m : Mod} (hM : MOk m) (h : ((!(refF m.doms.length m m.doms []).2) || decide ((200 : Int) < ((refF m.doms.length m m.doms []).1.length : Int))) = false) : infR m = ((refF m.doms.length m m.doms []).1, true) := by
  rw [inf_v hM.v, inf_g h]; rfl
theorem bdR_ok {m : Mod} {obj : List Int} {b : Int} {z : Mod} {o : Bool} (h : (z, o) = bdR m obj b) (ho : o = true) : MOk z ∧ pbR m obj b = infR z ∧ infR z = limO (refF z.doms.length z z.doms []) := by
  have e1 : z = (bdR m obj b).1 := by rw [← h]
  have e2 : (bdR m obj b).2 = true := by rw [← h]; exact ho
  have hv : validModB z = true := by
    rw [e1]
    unfold bdR wcR at e2 ⊢
    split at e2
    · rename_i h1
      rw [if_pos h1]
      split at e2
      · rename_i h2; rw [if_pos h2]; exact h2
      · cases e2
    · cases e2
  exact ⟨⟨hv⟩, by rw [pb_yes e2, ← e1], inf_v hv⟩
theorem bdR_no {m : Mod} {obj : List Int} {b : Int} {z : Mod} {o : Bool} (h : (z, o) = bdR m obj b) (ho : o = false) : pbR m obj b = ([], false) := pb_no (by rw [← h]; exact ho)
end
end Go.Proofs.YtolndgeihijlbaaGreat
