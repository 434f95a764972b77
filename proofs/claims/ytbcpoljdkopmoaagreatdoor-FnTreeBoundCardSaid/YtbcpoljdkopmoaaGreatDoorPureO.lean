/- Plain law: how far a solution is from the lower bound. No program in sight. Conditions: none. -/
import Derived.Test.YtbcpoljdkopmoaaGreatDoorPureY
namespace Go.Proofs.YtbcpoljdkopmoaaGreatDoor
open Go
set_option linter.unusedSimpArgs false
set_option linter.unusedVariables false
def leastI (d : Int) : Int := (valsI d).getD 0 0
def mostI (d : Int) : Int := (valsI d).getD ((valsI d).length - 1) 0
theorem ends_in {d v : Int} (hd : 0 ≤ d ∧ d ≤ 63) (hv : v ∈ valsI d) : leastI d ≤ v ∧ v ≤ mostI d ∧ 0 ≤ leastI d ∧ mostI d ≤ 5 ∧ leastI d ≤ 5 ∧ 0 ≤ mostI d := by
  have key : ∀ i, i < 64 → ∀ v ∈ valsI ((i : Nat) : Int), leastI ((i : Nat) : Int) ≤ v ∧ v ≤ mostI ((i : Nat) : Int) ∧ 0 ≤ leastI ((i : Nat) : Int) ∧ mostI ((i : Nat) : Int) ≤ 5 ∧ leastI ((i : Nat) : Int) ≤ 5 ∧ 0 ≤ mostI ((i : Nat) : Int) := by decide +kernel
  obtain ⟨i, rfl⟩ := Int.eq_ofNat_of_zero_le hd.1
  exact key i (by omega) v hv
def endI (a d : Int) : Int := if a < 0 then mostI d else leastI d
def lowT (ds obj : List Int) : Nat → Int
  | 0 => 0
  | k + 1 => lowT ds obj k + obj.getD k 0 * endI (obj.getD k 0) (ds.getD k 0)
theorem end_in {a d v : Int} (ha : -9 ≤ a ∧ a ≤ 9) (hd : 0 ≤ d ∧ d ≤ 63) (hv : v ∈ valsI d) : a * endI a d ≤ a * v ∧ -45 ≤ a * endI a d ∧ a * endI a d ≤ 45 := by
  obtain ⟨h1, h2, h3, h4, h5, h6⟩ := ends_in hd hv
  unfold endI
  split
  · rename_i h
    refine ⟨Int.mul_le_mul_of_nonpos_left (by omega) h2, ?_, ?_⟩
    · have : mostI d = 0 ∨ mostI d = 1 ∨ mostI d = 2 ∨ mostI d = 3 ∨ mostI d = 4 ∨ mostI d = 5 := by omega
      rcases this with e | e | e | e | e | e <;> rw [e] <;> omega
    · have : mostI d = 0 ∨ mostI d = 1 ∨ mostI d = 2 ∨ mostI d = 3 ∨ mostI d = 4 ∨ mostI d = 5 := by omega
      rcases this with e | e | e | e | e | e <;> rw [e] <;> omega
  · refine ⟨Int.mul_le_mul_of_nonneg_left h1 (by omega), ?_, ?_⟩
    · have : leastI d = 0 ∨ leastI d = 1 ∨ leastI d = 2 ∨ leastI d = 3 ∨ leastI d = 4 ∨ leastI d = 5 := by omega
      rcases this with e | e | e | e | e | e <;> rw [e] <;> omega
    · have : leastI d = 0 ∨ leastI d = 1 ∨ leastI d = 2 ∨ leastI d = 3 ∨ leastI d = 4 ∨ leastI d = 5 := by omega
      rcases this with e | e | e | e | e | e <;> rw [e] <;> omega
/-- A solution of the model lies in the propagated domains. -/
theorem sols_box {m : Mod} (hM : MOk m) {x : List Int} (h : x ∈ sols m) : Box (prop m m.doms) x := by
  rw [← sols_prop hM] at h
  exact mem_tupL.1 (List.mem_filter.1 h).1
theorem low_le {m : Mod} (hM : MOk m) {obj x : List Int} (hO : Coef obj) (ho : obj.length = m.doms.length) (h : x ∈ sols m) : ∀ k : Nat, k ≤ m.doms.length → lowT (prop m m.doms) obj k ≤ dotTo obj x k ∧ -45 * (k : Int) ≤ lowT (prop m m.doms) obj k ∧ lowT (prop m m.doms) obj k ≤ 45 * (k : Int)
  | 0, _ => by simp [lowT, dotTo]
  | k + 1, hk => by
    have ih := low_le hM hO ho h k (by omega)
    have hp := propOk hM hM.dok
    have hl := hp.ok.l
    have hb := (sols_box hM h).2 k (by omega)
    have he := end_in (hO _ (getD_mem (d := 0) (by omega : k < obj.length))) (hp.ok.d.at (i := k) (by omega)) hb
    rw [lowT, dot_succ]
    omega
theorem no_zero {m : Mod} (hM : MOk m) {x : List Int} (h : x ∈ sols m) {k : Nat} (hk : k < m.doms.length) : 1 ≤ (prop m m.doms).getD k 0 ∧ (prop m m.doms).getD k 0 ≤ 63 ∧ (prop m m.doms).contains 0 = false ∧ (valsI ((prop m m.doms).getD k 0)) ≠ [] := by
  have hp := propOk hM hM.dok
  have hl := hp.ok.l
  have hb := sols_box hM h
  have h1 : ∀ i, i < m.doms.length → (prop m m.doms).getD i 0 ≠ 0 := fun i hi e => by
    have := hb.2 i (by omega)
    rw [e, valsI_0] at this; cases this
  have h2 := hp.ok.d.at (i := k) (by omega)
  refine ⟨by have := h1 k hk; omega, h2.2, ?_, fun e => by have := hb.2 k (by omega); rw [e] at this; cases this⟩
  cases hc : (prop m m.doms).contains 0 with
  | false => rfl
  | true =>
    rw [List.contains_iff_mem] at hc
    obtain ⟨i, hi, e⟩ := List.getElem_of_mem hc
    exact absurd (by simp [List.getD, hi, e]) (h1 i (by omega))
def gapI (m : Mod) (obj x : List Int) : Int × Bool := if (objOkB m obj && isSolT m x) = true then (dotTo obj x x.length - lowT (prop m m.doms) obj obj.length, true) else (0, false)
theorem gap_no {m : Mod} {obj x : List Int} (h : (!(objOkB m obj) || !(isSolT m x)) = true) : gapI m obj x = (0, false) := by
  unfold gapI; rw [if_neg]; intro h2; rw [Bool.and_eq_true] at h2; rw [h2.1, h2.2] at h; simp at h
theorem isSolT_mem' {m : Mod} {x : List Int} (h : isSolT m x = true) : x ∈ sols m := by
  unfold isSolT isSolB inDomB at h
  simp only [Bool.and_eq_true, decide_eq_true_eq, List.all_eq_true, List.mem_range] at h
  obtain ⟨⟨h1, h2, h3⟩, h4, h5⟩ := h
  exact sols_mem.2 ⟨⟨by omega, fun i hi => mem_valsI.2 ⟨(vals_of h3).at (by omega), h4 i (by omega)⟩⟩, h5⟩
theorem gap_g {m : Mod} {obj x : List Int} (h : (!(objOkB m obj) || !(isSolT m x)) = false) : objOkB m obj = true ∧ MOk m ∧ obj.length = m.doms.length ∧ Coef obj ∧ x ∈ sols m ∧ x.length = m.doms.length ∧ Vals x := by
  simp only [Bool.or_eq_false_iff, Bool.not_eq_false'] at h
  have h1 := objok h.1
  have h2 := isSolT_mem' h.2
  exact ⟨h.1, h1.1, h1.2.1, h1.2.2, h2, sols_len h2, sols_vals h2⟩
theorem gap_yes {m : Mod} {obj x : List Int} (h : (!(objOkB m obj) || !(isSolT m x)) = false) : gapI m obj x = (dotTo obj x x.length - lowT (prop m m.doms) obj obj.length, true) := by
  unfold gapI; rw [if_pos]
  simp only [Bool.or_eq_false_iff, Bool.not_eq_false'] at h
  rw [h.1, h.2]; rfl
/-- The test of the reference. -/
theorem gap_swap {m : Mod} {obj x : List Int} : (((!(validModB m) || !(objOkS m obj)) || decide ((x.length : Int) ≠ (m.doms.length : Int))) = false → isSolS m x = isSolT m x) := fun h => by
  simp only [Bool.or_eq_false_iff, Bool.not_eq_false', decide_eq_false_iff_not, Decidable.not_not] at h
  rw [isSol_eq]; unfold isSolU; rw [h.1.1, h.2]; simp
theorem gap_cond {m : Mod} {obj x : List Int} : (((!(validModB m) || !(objOkS m obj)) || decide ((x.length : Int) ≠ (m.doms.length : Int))) || !(isSolS m x)) = (!(objOkB m obj) || !(isSolT m x)) := by
  rw [obj_eq]
  by_cases h : ((!(validModB m) || !(objOkS m obj)) || decide ((x.length : Int) ≠ (m.doms.length : Int))) = false
  · rw [h, gap_swap h]
    simp only [Bool.or_eq_false_iff, Bool.not_eq_false', decide_eq_false_iff_not, Decidable.not_not] at h
    rw [h.1.1, h.1.2]; rfl
  · have h' : ((!(validModB m) || !(objOkS m obj)) || decide ((x.length : Int) ≠ (m.doms.length : Int))) = true := (Bool.not_eq_false _).mp h
    rw [h', Bool.true_or]
    symm
    simp only [Bool.or_eq_true, Bool.not_eq_true', decide_eq_true_eq] at h'
    rcases h' with (h1 | h1) | h1
    · rw [h1]; rfl
    · rw [h1]; simp
    · have : isSolT m x = false := by
        unfold isSolT
        rw [decide_eq_false h1]; simp
      rw [this]; simp
theorem gap_no' {m : Mod} {obj x : List Int} (h : (((!(validModB m) || !(objOkS m obj)) || decide ((x.length : Int) ≠ (m.doms.length : Int))) || !(isSolS m x)) = true) : gapI m obj x = (0, false) := gap_no (by rw [← gap_cond]; exact h)
theorem gap_c' {m : Mod} {obj x : List Int} (h : (((!(validModB m) || !(objOkS m obj)) || decide ((x.length : Int) ≠ (m.doms.length : Int))) || !(isSolS m x)) = false) : (!(objOkB m obj) || !(isSolT m x)) = false := by rw [← gap_cond]; exact h
/-- The lower bound of the reference. -/
def lbI (m : Mod) (obj : List Int) : Int × Bool := if (validModB m && objOkS m obj) = true then (if (prop m m.doms).contains 0 = true then (0, false) else (lowT (prop m m.doms) obj (prop m m.doms).length, true)) else (0, false)
theorem lb_no {m : Mod} {obj : List Int} (h : (!(validModB m) || !(objOkS m obj)) = true) : lbI m obj = (0, false) := by
  unfold lbI; rw [if_neg]; intro h2; rw [Bool.and_eq_true] at h2; rw [h2.1, h2.2] at h; simp at h
theorem lb_c {m : Mod} {obj : List Int} (h : (!(validModB m) || !(objOkS m obj)) = false) : (validModB m && objOkS m obj) = true := by
  simp only [Bool.or_eq_false_iff, Bool.not_eq_false'] at h; rw [h.1, h.2]; rfl
theorem lb_ok {m : Mod} {obj : List Int} (h : (!(validModB m) || !(objOkS m obj)) = false) : MOk m ∧ obj.length = m.doms.length ∧ Coef obj := objok (m := m) (obj := obj) (by rw [obj_eq]; exact lb_c h)
theorem lb_0 {m : Mod} {obj : List Int} (h : (!(validModB m) || !(objOkS m obj)) = false) (h0 : (prop m m.doms).contains 0 = true) : lbI m obj = (0, false) := by unfold lbI; rw [if_pos (lb_c h), if_pos h0]
theorem lb_1 {m : Mod} {obj : List Int} (h : (!(validModB m) || !(objOkS m obj)) = false) (h0 : (prop m m.doms).contains 0 = false) : lbI m obj = (lowT (prop m m.doms) obj (prop m m.doms).length, true) := by unfold lbI; rw [if_pos (lb_c h), if_neg (by rw [h0]; simp)]
theorem lb_sol {m : Mod} {obj x : List Int} (h : (!(objOkB m obj) || !(isSolT m x)) = false) : (lbI m obj).1 = lowT (prop m m.doms) obj obj.length := by
  obtain ⟨h1, hM, h3, h4, h5, _⟩ := gap_g h
  have hc : (!(validModB m) || !(objOkS m obj)) = false := by
    rw [obj_eq, Bool.and_eq_true] at h1; rw [h1.1, h1.2]; rfl
  have hn := hM.n
  rw [lb_1 hc (no_zero hM h5 (k := 0) (by omega)).2.2.1]
  have hl := (propOk hM hM.dok).ok.l
  rw [hl, h3]
theorem lb_at {m : Mod} (hM : MOk m) (h0 : (prop m m.doms).contains 0 = false) {k : Nat} (hk : k < m.doms.length) : 1 ≤ (prop m m.doms).getD k 0 ∧ (prop m m.doms).getD k 0 ≤ 63 ∧ 1 ≤ (valsI ((prop m m.doms).getD k 0)).length ∧ 0 ≤ leastI ((prop m m.doms).getD k 0) ∧ leastI ((prop m m.doms).getD k 0) ≤ 5 ∧ 0 ≤ mostI ((prop m m.doms).getD k 0) ∧ mostI ((prop m m.doms).getD k 0) ≤ 5 := by
  have hp := propOk hM hM.dok
  have hl := hp.ok.l
  have h1 : (prop m m.doms).getD k 0 ≠ 0 := fun e => by
    have := getD_mem (d := (0 : Int)) (by omega : k < (prop m m.doms).length)
    rw [e] at this
    rw [List.contains_iff_mem.2 this] at h0; cases h0
  have h2 := hp.ok.d.at (i := k) (by omega)
  have h3 := valsI_ne h2 h1
  obtain ⟨v, hv⟩ := List.exists_mem_of_ne_nil _ h3
  have h4 := ends_in h2 hv
  have h5 := List.length_pos_of_mem hv
  omega
theorem lb_in {m : Mod} (hM : MOk m) {obj : List Int} (hO : Coef obj) (ho : obj.length = m.doms.length) (h0 : (prop m m.doms).contains 0 = false) : ∀ k : Nat, k ≤ m.doms.length → -45 * (k : Int) ≤ lowT (prop m m.doms) obj k ∧ lowT (prop m m.doms) obj k ≤ 45 * (k : Int)
  | 0, _ => by simp [lowT]
  | k + 1, hk => by
    have ih := lb_in hM hO ho h0 k (by omega)
    have hp := propOk hM hM.dok
    have hl := hp.ok.l
    have h1 := lb_at hM h0 (k := k) (by omega)
    obtain ⟨v, hv⟩ := List.exists_mem_of_length_pos (by omega : 0 < (valsI ((prop m m.doms).getD k 0)).length)
    have he := end_in (hO _ (getD_mem (d := 0) (by omega : k < obj.length))) (hp.ok.d.at (i := k) (by omega)) hv
    rw [lowT]; omega
theorem gap_law {m : Mod} {obj x : List Int} (h : (gapI m obj x).2 = true) : 0 ≤ (gapI m obj x).1 ∧ (minI m obj).2 = true ∧ 0 ≤ objVal obj x - objVal obj (minI m obj).1 ∧ objVal obj x - objVal obj (minI m obj).1 ≤ (gapI m obj x).1 := by
  by_cases hc : (!(objOkB m obj) || !(isSolT m x)) = true
  · rw [gap_no hc] at h; cases h
  · have hc : (!(objOkB m obj) || !(isSolT m x)) = false := by simpa using hc
    obtain ⟨h1, hM, h3, h4, h5, h6, h7⟩ := gap_g hc
    rw [gap_yes hc]
    have hl := low_le hM h4 h3 h5 m.doms.length (Nat.le_refl _)
    have hm2 : (minI m obj).2 = true := by
      rw [min_yes h1]; unfold bestI
      exact decide_eq_true (by have := List.length_pos_of_mem h5; omega)
    have hb := best_in (p := fun y => dotTo obj y y.length) (xs := sols m) (by rw [← min_yes h1]; exact hm2)
    rw [← min_yes h1] at hb
    have hy := hb.2 x h5
    have hl2 := low_le hM h4 h3 hb.1 m.doms.length (Nat.le_refl _)
    try dsimp only at hy
    rw [sols_len hb.1, h6] at hy
    rw [objVal_sol h1 h5, objVal_sol h1 hb.1, h6, h3]
    refine ⟨?_, hm2, ?_, ?_⟩ <;> (try dsimp only) <;> omega
theorem gap_f {m : Mod} {obj x : List Int} {a : Bool} (h : (a || !((gapI m obj x).2)) = false) : (gapI m obj x).2 = true := by
  simp only [Bool.or_eq_false_iff, Bool.not_eq_false'] at h; exact h.2
theorem objVal_b (obj x : List Int) : -180 ≤ objVal obj x ∧ objVal obj x ≤ 180 := by
  by_cases c : (((decide ((obj.length : Int) ≠ (x.length : Int)) || decide ((4 : Int) < (obj.length : Int))) || !(allInB obj (-9) 9)) || !(allInB x 0 5)) = true
  · rw [← objVal_0 c]; omega
  · have c' : (((decide ((obj.length : Int) ≠ (x.length : Int)) || decide ((4 : Int) < (obj.length : Int))) || !(allInB obj (-9) 9)) || !(allInB x 0 5)) = false := by simpa using c
    obtain ⟨h1, h2, h3, h4⟩ := objVal_ok c'
    rw [← objVal_1 c']
    have := dot_le h1 h2 x.length (by omega) (Nat.le_refl _)
    omega
theorem objVal_in {m : Mod} {obj x : List Int} (_ : (gapI m obj x).2 = true) : (-180 ≤ objVal obj x ∧ objVal obj x ≤ 180) ∧ (-180 ≤ objVal obj (minI m obj).1 ∧ objVal obj (minI m obj).1 ≤ 180) := ⟨objVal_b _ _, objVal_b _ _⟩
theorem gap_fin {m : Mod} {obj x : List Int} (h : 0 ≤ (gapI m obj x).1 ∧ (minI m obj).2 = true ∧ 0 ≤ objVal obj x - objVal obj (minI m obj).1 ∧ objVal obj x - objVal obj (minI m obj).1 ≤ (gapI m obj x).1) :
    (((decide ((0 : Int) ≤ (gapI m obj x).1) && (minI m obj).2) && decide ((0 : Int) ≤ objVal obj x - objVal obj (minI m obj).1)) && decide (objVal obj x - objVal obj (minI m obj).1 ≤ (gapI m obj x).1)) = true := by
  rw [decide_eq_true h.1, h.2.1, decide_eq_true h.2.2.1, decide_eq_true h.2.2.2]; rfl
end Go.Proofs.YtbcpoljdkopmoaaGreatDoor
