/- Plain law: bounds of search trees. No program in sight. Conditions: none. -/
import Derived.Test.YtbcpoljdkopmoaaGreatDoorPureO
namespace Go.Proofs.YtbcpoljdkopmoaaGreatDoor
open Go
set_option linter.unusedSimpArgs false
set_option linter.unusedVariables false
theorem prop_z {m : Mod} (hM : MOk m) : ∀ (k : Nat) {ds : List Int}, sumN ds = k → DOk m.doms.length ds → (prop m ds).contains 0 = true → prop m ds = zerosL ds.length := by
  intro k
  induction k using Nat.strongRecOn with
  | _ k ih =>
    intro ds hk hd hz
    by_cases h0 : ds.contains 0 = true
    · exact prop_0 h0
    · have h0 : ds.contains 0 = false := by simpa using h0
      by_cases e : filtA m ds = ds
      · rw [prop_fix h0 e, h0] at hz; cases hz
      · have h1 := prop_step hM hd h0 e
        rw [← h1] at hz ⊢
        have h2 := (filtA_ok hM hd).1
        rw [ih _ (by rw [← hk]; exact filtA_lt hM hd e) rfl h2 hz, h2.l, hd.l]
theorem prop_first {m : Mod} (hM : MOk m) {ds : List Int} (hd : DOk m.doms.length ds) : (prop m ds).getD 0 0 = 0 ↔ (prop m ds).contains 0 = true := by
  have hn := hM.n
  have hl := (propOk hM hd).ok.l
  constructor
  · intro h
    have := getD_mem (d := (0 : Int)) (by omega : 0 < (prop m ds).length)
    rw [h] at this; exact List.contains_iff_mem.2 this
  · intro h
    rw [prop_z hM _ rfl hd h]
    have : 0 < ds.length := by rw [hd.l]; omega
    simp [zerosL, List.getD, this]
theorem prop_at {m : Mod} (hM : MOk m) {ds : List Int} (hd : DOk m.doms.length ds) (h0 : (prop m ds).contains 0 = false) : ∀ i, i < (prop m ds).length → 1 ≤ (prop m ds).getD i 0 ∧ (prop m ds).getD i 0 ≤ 63 := fun i hi => by
  have h1 := (propOk hM hd).ok.d.at hi
  have h2 : (prop m ds).getD i 0 ≠ 0 := fun e => by
    have := getD_mem (d := (0 : Int)) hi
    rw [e] at this
    rw [List.contains_iff_mem.2 this] at h0; cases h0
  omega
/-- The first variable that is open. -/
def opI (ds : List Int) : Int := indexBy (fun d => decide ((1 : Int) < popI d)) ds
/-- The bounds of the leaves of a search tree. -/
def tbL (m : Mod) (obj : List Int) : Nat → List Int → List Int
  | 0, ds => if (prop m ds).contains 0 = true then [] else [lowT (prop m ds) obj obj.length]
  | k + 1, ds => if (prop m ds).contains 0 = true then [] else if opI (prop m ds) < 0 then [lowT (prop m ds) obj obj.length] else (valsI ((prop m ds).getD (opI (prop m ds)).toNat 0)).flatMap (fun v => tbL m obj k ((prop m ds).set (opI (prop m ds)).toNat (ishl 1 v)))
def putB (s : Int × Bool) (b : Int) : Int × Bool := if (!s.2 || decide (b < s.1)) = true then (b, true) else s
def minF (l : List Int) : Int × Bool := l.foldl putB (0, false)
def comb (s r : Int × Bool) : Int × Bool := if (r.2 && (!s.2 || decide (r.1 < s.1))) = true then (r.1, true) else s
theorem comb_put (s r : Int × Bool) (b : Int) (hr : r.2 = false → r.1 = 0) : comb s (putB r b) = putB (comb s r) b := by
  obtain ⟨s1, s2⟩ := s
  obtain ⟨r1, r2⟩ := r
  cases r2 <;> cases s2 <;> simp only [comb, putB, Bool.not_false, Bool.not_true, Bool.true_or, Bool.false_or, Bool.true_and, Bool.false_and, if_true, Bool.false_eq_true, if_false, decide_eq_true_eq]
  · by_cases h : b < r1
    · simp [h]
    · simp [h]
  · by_cases h : b < r1
    · by_cases h2 : b < s1 <;> by_cases h3 : r1 < s1 <;> simp [h, h2, h3] <;> omega
    · by_cases h2 : b < s1 <;> by_cases h3 : r1 < s1 <;> simp [h, h2, h3] <;> omega
theorem minF_ok : ∀ (l : List Int) (s : Int × Bool), (s.2 = false → s.1 = 0) → ((l.foldl putB s).2 = false → (l.foldl putB s).1 = 0)
  | [], s, h => h
  | b :: l, s, h => minF_ok l (putB s b) (by unfold putB; split; · intro e; cases e
                                             · exact h)
theorem comb_fold (s : Int × Bool) : ∀ (l : List Int) (r : Int × Bool), (r.2 = false → r.1 = 0) → comb s (l.foldl putB r) = l.foldl putB (comb s r)
  | [], _, _ => rfl
  | b :: l, r, h => by
    rw [List.foldl_cons, List.foldl_cons, ← comb_put s r b h]
    exact comb_fold s l (putB r b) (by unfold putB; split; · intro e; cases e
                                       · exact h)
theorem fold_minF (s : Int × Bool) (l : List Int) : l.foldl putB s = comb s (minF l) := by
  unfold minF
  rw [comb_fold s l (0, false) (fun _ => rfl)]; rfl
theorem minF_app (a b : List Int) : minF (a ++ b) = comb (minF a) (minF b) := by
  have : minF (a ++ b) = b.foldl putB (minF a) := by unfold minF; rw [List.foldl_append]
  rw [this, fold_minF]
section tree
variable {m : Mod} {obj ds : List Int}
theorem tb_0 {k : Nat} (h : (prop m ds).contains 0 = true) : tbL m obj k ds = [] := by cases k <;> (unfold tbL; rw [if_pos h])
theorem tb_leaf {k : Nat} (h : (prop m ds).contains 0 = false) (c : (decide (opI (prop m ds) < 0) || decide ((k : Int) = 0)) = true) : tbL m obj k ds = [lowT (prop m ds) obj obj.length] := by
  cases k with
  | zero => unfold tbL; rw [if_neg (by rw [h]; simp)]
  | succ k =>
    simp only [Bool.or_eq_true, decide_eq_true_eq] at c
    unfold tbL; rw [if_neg (by rw [h]; simp), if_pos (by omega)]
/-- The bounds below the first j values. -/
def tbTo (m : Mod) (obj : List Int) (k : Nat) (p : List Int) (i j : Nat) : List Int := ((valsI (p.getD i 0)).take j).flatMap (fun v => tbL m obj k (p.set i (ishl 1 v)))
theorem tbTo_0 (k : Nat) (p : List Int) (i : Nat) : tbTo m obj k p i 0 = [] := rfl
theorem tbTo_succ {k i j : Nat} {p : List Int} (h : j < (valsI (p.getD i 0)).length) : tbTo m obj k p i (j + 1) = tbTo m obj k p i j ++ tbL m obj k (p.set i (ishl 1 ((valsI (p.getD i 0)).getD j 0))) := by
  unfold tbTo; rw [take_succ_getD 0 h, List.flatMap_append]; simp
theorem tb_all {k j : Nat} (h : (prop m ds).contains 0 = false) (c : ¬ opI (prop m ds) < 0) (hj : (valsI ((prop m ds).getD (opI (prop m ds)).toNat 0)).length ≤ j) : tbTo m obj k (prop m ds) (opI (prop m ds)).toNat j = tbL m obj (k + 1) ds := by
  unfold tbTo; rw [List.take_of_length_le hj]
  conv => rhs; unfold tbL
  rw [if_neg (by rw [h]; simp), if_neg c]
theorem op_in (h : ¬ opI ds < 0) : opI ds < (ds.length : Int) ∧ (1 : Int) < popI (ds.getD (opI ds).toNat 0) := by
  unfold opI indexBy at h ⊢
  cases e : ds.findIdx? (fun d => decide ((1 : Int) < popI d)) with
  | none => rw [e] at h; simp at h
  | some i =>
    rw [List.findIdx?_eq_some_iff_getElem] at e
    obtain ⟨h1, h2, _⟩ := e
    dsimp only
    refine ⟨by omega, ?_⟩
    rw [Int.toNat_natCast, show ds.getD i 0 = ds[i] from by simp [List.getD, h1]]
    simpa using h2
/-- The reference finds the same variable. -/
theorem op_no {i : Nat} (hD : ∀ i, i < ds.length → 1 ≤ ds.getD i 0 ∧ ds.getD i 0 ≤ 63) (hi : i = ds.length) (h : ∀ j, j < i → (valsI (ds.getD j 0)).length = 1) : opI ds < 0 := by
  have h1 := indexBy_none (p := fun d => decide ((1 : Int) < popI d)) (xs := ds) (k := i) (by omega) (by
    rw [List.any_eq_false]; intro d hd
    obtain ⟨j, hj, rfl⟩ := List.getElem_of_mem (List.mem_of_mem_take hd)
    have := h j (by omega)
    rw [show ds.getD j 0 = ds[j] from by simp [List.getD, hj]] at this
    simp [popI, this])
  unfold opI; omega
theorem op_at {i : Nat} (hD : ∀ i, i < ds.length → 1 ≤ ds.getD i 0 ∧ ds.getD i 0 ≤ 63) (hi : i < ds.length) (h : ∀ j, j < i → (valsI (ds.getD j 0)).length = 1) (h1 : (valsI (ds.getD i 0)).length ≠ 1) : opI ds = (i : Int) := by
  have h2 := List.length_pos_iff.2 (valsI_ne (d := ds.getD i 0) (by have := hD i hi; omega) (by have := hD i hi; omega))
  refine (indexBy_hit (d := 0) hi ?_ ?_).symm
  · rw [List.any_eq_false]; intro d hd
    obtain ⟨j, hj, rfl⟩ := List.getElem_of_mem hd
    rw [List.length_take] at hj
    have h3 := h j (by omega)
    rw [List.getElem_take]
    rw [show ds.getD j 0 = ds[j]'(by omega) from by simp [List.getD, (by omega : j < ds.length)]] at h3
    simp [popI, h3]
  · refine decide_eq_true ?_
    unfold popI; omega
theorem lim_eq {i : Nat} {v : Int} (hd : 0 ≤ ds.getD i 0 ∧ ds.getD i 0 ≤ 63) (hv : v ∈ valsI (ds.getD i 0)) : iand (ds.getD i 0) (ishl 1 v) = ishl 1 v := by
  have key : ∀ d, d < 64 → ∀ v ∈ valsI ((d : Nat) : Int), iand ((d : Nat) : Int) (ishl 1 v) = ishl 1 v := by decide +kernel
  obtain ⟨d, e⟩ := Int.eq_ofNat_of_zero_le hd.1
  rw [e] at hv ⊢
  exact key d (by omega) v hv
theorem step_T {s r : Int × Bool} {a b : List Int} (hs : s = minF a) (hr : r = minF b) (c : (r.2 && (!s.2 || decide (r.1 < s.1))) = true) : (r.1, true) = minF (a ++ b) := by
  rw [minF_app, ← hs, ← hr]; unfold comb; rw [if_pos c]
theorem step_F {s r : Int × Bool} {a b : List Int} (hs : s = minF a) (hr : r = minF b) (c : (r.2 && (!s.2 || decide (r.1 < s.1))) = false) : s = minF (a ++ b) := by
  rw [minF_app, ← hs, ← hr]; unfold comb; rw [if_neg (by rw [c]; simp)]
end tree
def tbI (m : Mod) (obj : List Int) (dp : Int) : Int × Bool := if (objOkB m obj && withinB dp 0 4) = true then minF (tbL m obj dp.toNat m.doms) else (0, false)
theorem tbI_no {m : Mod} {obj : List Int} {dp : Int} (h : (!(objOkB m obj) || !(withinB dp 0 4)) = true) : tbI m obj dp = (0, false) := by
  unfold tbI; rw [if_neg]; intro h2; rw [Bool.and_eq_true] at h2; rw [h2.1, h2.2] at h; simp at h
theorem tbI_c {m : Mod} {obj : List Int} {dp : Int} (h : (!(objOkB m obj) || !(withinB dp 0 4)) = false) : objOkB m obj = true ∧ withinB dp 0 4 = true := by simpa using h
theorem tbI_yes {m : Mod} {obj : List Int} {dp : Int} (h : (!(objOkB m obj) || !(withinB dp 0 4)) = false) : tbI m obj dp = minF (tbL m obj dp.toNat m.doms) := by
  obtain ⟨h1, h2⟩ := tbI_c h; unfold tbI; rw [h1, h2]; rfl
theorem tbI_ok {m : Mod} {obj : List Int} {dp : Int} (h : (!(objOkB m obj) || !(withinB dp 0 4)) = false) : MOk m ∧ obj.length = m.doms.length ∧ Coef obj ∧ 0 ≤ dp ∧ dp ≤ 4 := by
  obtain ⟨h1, h2⟩ := tbI_c h
  have := objok h1
  rw [withinB_iff] at h2
  exact ⟨this.1, this.2.1, this.2.2, h2⟩
theorem tbI_s {m : Mod} {obj : List Int} {dp : Int} : ((!(validModB m) || !(objOkS m obj)) || !(withinB dp 0 4)) = (!(objOkB m obj) || !(withinB dp 0 4)) := by
  rw [obj_eq]; cases validModB m <;> cases objOkS m obj <;> rfl
theorem vi_leaf {m : Mod} {ds : List Int} {dp : Int} {k i : Nat} (hD : ∀ i, i < (prop m ds).length → 1 ≤ (prop m ds).getD i 0 ∧ (prop m ds).getD i 0 ≤ 63) (hk : dp = (k : Int)) (h : ∀ j, j < i → (valsI ((prop m ds).getD j 0)).length = 1) (c : (decide ((i : Int) = ((prop m ds).length : Int)) || decide (dp = 0)) = true) (_ : ¬ i < (prop m ds).length ∨ (((valsI ((prop m ds).getD i 0)).length : Nat) : Int) ≠ 1) : (decide (opI (prop m ds) < 0) || decide ((k : Int) = 0)) = true := by
  simp only [Bool.or_eq_true, decide_eq_true_eq] at c ⊢
  rcases c with c | c
  · exact .inl (op_no hD (by omega) h)
  · exact .inr (by omega)
theorem put_T {s : Int} {b lo : Int} {sm : Bool} (e : s = b) (c : (!sm || decide (s < lo)) = true) : (s, true) = [b].foldl putB (lo, sm) := by
  subst e; simp only [List.foldl_cons, List.foldl_nil, putB]; rw [if_pos c]
theorem put_F {s : Int} {b lo : Int} {sm : Bool} (e : s = b) (c : (!sm || decide (s < lo)) = false) : (lo, true) = [b].foldl putB (lo, sm) := by
  subst e; simp only [List.foldl_cons, List.foldl_nil, putB]; rw [if_neg (by rw [c]; simp)]
  cases sm with
  | true => rfl
  | false => simp at c
theorem tb_allS {m : Mod} {obj ds : List Int} {k j i : Nat} (h : (prop m ds).contains 0 = false) (c : opI (prop m ds) = (i : Int)) (hj : (valsI ((prop m ds).getD i 0)).length ≤ j) : tbTo m obj k (prop m ds) i j = tbL m obj (k + 1) ds := by
  have h1 := tb_all (m := m) (obj := obj) (ds := ds) (k := k) (j := j) h (by omega) (by rw [c, Int.toNat_natCast]; exact hj)
  rwa [c, Int.toNat_natCast] at h1
end Go.Proofs.YtbcpoljdkopmoaaGreatDoor
