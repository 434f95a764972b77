/- Plain law: games: who can win, what is attained, the least value. No program in sight. Conditions: none. -/
import Derived.Test.YtkfioalfofoikaaGreatPureV
import Derived.Test.YtkfioalfofoikaaGreatPureJ
namespace Go.Proofs.YtkfioalfofoikaaGreat
open Go
set_option linter.unusedSimpArgs false
set_option linter.unusedVariables false
theorem gg_cons (fa : Bool) (f : Int → Int × Bool) (v : Int) (vs : List Int) (b : Int) (s : Bool) : gameGo fa f (v :: vs) b s = if fa && !(f v).2 then (0, false) else if (f v).2 && ((!s || (fa && decide (b < (f v).1))) || (!fa && decide ((f v).1 < b))) then gameGo fa f vs (f v).1 true else gameGo fa f vs b s := rfl
theorem gg_all (f : Int → Int × Bool) : ∀ (vs : List Int) (b : Int) (s : Bool), (gameGo true f vs b s).2 = ((s || !vs.isEmpty) && vs.all (fun v => (f v).2))
  | [], b, s => by simp [gameGo]
  | v :: vs, b, s => by
    rw [gg_cons]
    cases e : (f v).2 with
    | false => simp [e]
    | true =>
      simp only [Bool.not_true, Bool.and_false, Bool.false_eq_true, if_false, Bool.true_and, List.isEmpty_cons, Bool.not_false, Bool.or_true, List.all_cons, e]
      split
      · rw [gg_all f vs]; simp
      · rename_i h
        rw [gg_all f vs]
        have hs : s = true := by revert h; cases s <;> simp
        rw [hs]; simp
theorem gg_any (f : Int → Int × Bool) : ∀ (vs : List Int) (b : Int) (s : Bool), (gameGo false f vs b s).2 = (s || vs.any (fun v => (f v).2))
  | [], b, s => by simp [gameGo]
  | v :: vs, b, s => by
    rw [gg_cons]
    cases e : (f v).2 with
    | false =>
      simp only [Bool.false_and, Bool.false_eq_true, if_false, List.any_cons, e, Bool.false_or]
      exact gg_any f vs b s
    | true =>
      simp only [Bool.not_true, Bool.and_false, Bool.false_eq_true, if_false, Bool.true_and, List.any_cons, e, Bool.true_or, Bool.or_true]
      split
      · rw [gg_any f vs]; simp
      · rename_i h
        rw [gg_any f vs]
        have hs : s = true := by revert h; cases s <;> simp
        rw [hs]; simp
theorem drop_split {ds : List Int} {i : Nat} (h : i < ds.length) : tupL (ds.drop i) = (valsI (ds.getD i 0)).flatMap (fun v => (tupL (ds.drop (i + 1))).map (fun r => v :: r)) := by
  rw [List.drop_eq_getElem_cons h, tupL, show ds[i] = ds.getD i 0 from by simp [List.getD, h]]
theorem game_win {m : Mod} (hM : MOk m) (h0 : m.doms.contains 0 = false) (obj : List Int) (fa : List Bool) : ∀ (k : Nat) (x : List Int), x.length + k = m.doms.length → (gameB m obj fa k x).2 = winB m fa k x
  | 0, x, h => rfl
  | k + 1, x, h => by
    have hx : x.length < m.doms.length := by omega
    have hne : valsI (m.doms.getD x.length 0) ≠ [] := valsI_ne (hM.d hx) (fun e => by
      have := getD_mem (d := (0 : Int)) hx
      rw [e] at this
      rw [List.contains_iff_mem.2 this] at h0; cases h0)
    have ih : ∀ v, (gameB m obj fa k (x ++ [v])).2 = winB m fa k (x ++ [v]) := fun v => game_win hM h0 obj fa k _ (by simp; omega)
    rw [gameB, winB]
    cases e : fa.getD x.length false with
    | true =>
      rw [if_pos rfl, gg_all]
      have : (valsI (m.doms.getD x.length 0)).isEmpty = false := by simpa using hne
      rw [this]; simp only [Bool.false_or, Bool.not_false, Bool.true_and, ih]
    | false =>
      rw [if_neg (by simp), gg_any]
      simp only [Bool.false_or, ih]
theorem gg_val (fa : Bool) (f : Int → Int × Bool) : ∀ (vs : List Int) (b : Int) (s : Bool), (gameGo fa f vs b s).2 = true → (∃ v ∈ vs, (f v).2 = true ∧ (f v).1 = (gameGo fa f vs b s).1) ∨ (s = true ∧ (gameGo fa f vs b s).1 = b)
  | [], b, s, h => .inr ⟨h, rfl⟩
  | v :: vs, b, s, h => by
    rw [gg_cons] at h ⊢
    split at h
    · cases h
    · rename_i h1
      rw [if_neg h1]
      split at h
      · rename_i h2
        rw [if_pos h2]
        rcases gg_val fa f vs (f v).1 true h with ⟨u, hu, h3, h4⟩ | ⟨_, h4⟩
        · exact .inl ⟨u, .tail _ hu, h3, h4⟩
        · refine .inl ⟨v, .head _, ?_, h4.symm⟩
          simp only [Bool.and_eq_true] at h2; exact h2.1
      · rename_i h2
        rw [if_neg h2]
        rcases gg_val fa f vs b s h with ⟨u, hu, h3, h4⟩ | h4
        · exact .inl ⟨u, .tail _ hu, h3, h4⟩
        · exact .inr h4
theorem game_att {m : Mod} (obj : List Int) (fa : List Bool) : ∀ (k : Nat) (x : List Int), x.length + k = m.doms.length → (gameB m obj fa k x).2 = true → ∃ r ∈ tupL (m.doms.drop x.length), metB m (x ++ r) = true ∧ dotTo obj (x ++ r) m.doms.length = (gameB m obj fa k x).1
  | 0, x, h, hs => ⟨[], by rw [List.drop_eq_nil_of_le (by omega)]; simp [tupL], by rw [List.append_nil]; exact hs, by rw [List.append_nil, ← h]; rfl⟩
  | k + 1, x, h, hs => by
    have hx : x.length < m.doms.length := by omega
    rw [gameB] at hs ⊢
    rcases gg_val _ _ _ _ _ hs with ⟨v, hv, h3, h4⟩ | ⟨h3, _⟩
    · obtain ⟨r, hr, h5, h6⟩ := game_att obj fa k (x ++ [v]) (by simp; omega) h3
      refine ⟨v :: r, ?_, by rw [← List.append_cons] at h5; exact h5, by rw [← List.append_cons] at h6; rw [h6]; exact h4⟩
      rw [drop_split hx]
      refine List.mem_flatMap.2 ⟨v, hv, List.mem_map.2 ⟨r, ?_, rfl⟩⟩
      rw [List.length_append] at hr; exact hr
    · cases h3
theorem gg_min (f : Int → Int × Bool) : ∀ (vs : List Int) (b : Int) (s : Bool), (∀ v ∈ vs, (f v).2 = true → (gameGo false f vs b s).1 ≤ (f v).1) ∧ (s = true → (gameGo false f vs b s).1 ≤ b)
  | [], b, s => ⟨fun _ h => absurd h List.not_mem_nil, fun _ => Int.le_refl _⟩
  | v :: vs, b, s => by
    rw [gg_cons]
    simp only [Bool.false_and, Bool.false_eq_true, if_false, Bool.not_false, Bool.true_and, Bool.or_false]
    split
    · rename_i h2
      have ih := gg_min f vs (f v).1 true
      have h3 := ih.2 rfl
      simp only [Bool.and_eq_true, Bool.or_eq_true, decide_eq_true_eq, Bool.not_eq_true'] at h2
      refine ⟨fun u hu h => ?_, fun hs => ?_⟩
      · rcases List.mem_cons.1 hu with rfl | hu
        · exact h3
        · exact ih.1 u hu h
      · rcases h2.2 with h4 | h4
        · rw [hs] at h4; cases h4
        · omega
    · rename_i h2
      have ih := gg_min f vs b s
      simp only [Bool.and_eq_true, Bool.or_eq_true, decide_eq_true_eq, Bool.not_eq_true', not_and, not_or] at h2
      refine ⟨fun u hu h => ?_, ih.2⟩
      rcases List.mem_cons.1 hu with rfl | hu
      · have h4 := h2 h
        have := ih.2 (by revert h4; cases s <;> simp)
        omega
      · exact ih.1 u hu h
theorem game_min {m : Mod} (obj : List Int) : ∀ (k : Nat) (x : List Int), x.length + k = m.doms.length → ∀ r ∈ tupL (m.doms.drop x.length), metB m (x ++ r) = true → (gameB m obj (List.replicate m.doms.length false) k x).2 = true ∧ (gameB m obj (List.replicate m.doms.length false) k x).1 ≤ dotTo obj (x ++ r) m.doms.length
  | 0, x, h, r, hr, hs => by
    rw [List.drop_eq_nil_of_le (by omega)] at hr
    have : r = [] := by simpa [tupL] using hr
    subst this
    rw [List.append_nil] at hs ⊢
    exact ⟨hs, by rw [gameB, ← h]; exact Int.le_refl _⟩
  | k + 1, x, h, r, hr, hs => by
    have hx : x.length < m.doms.length := by omega
    rw [drop_split hx] at hr
    obtain ⟨v, hv, hr⟩ := List.mem_flatMap.1 hr
    obtain ⟨r', hr', rfl⟩ := List.mem_map.1 hr
    have ih := game_min (m := m) obj k (x ++ [v]) (by simp; omega) r' (by rw [List.length_append]; exact hr') (by rw [← List.append_cons]; exact hs)
    rw [← List.append_cons] at ih
    have e : (List.replicate m.doms.length false).getD x.length false = false := by simp [List.getD, hx]
    rw [gameB, e]
    refine ⟨?_, ?_⟩
    · rw [gg_any, Bool.false_or]; exact List.any_eq_true.2 ⟨v, hv, ih.1⟩
    · have := (gg_min (fun v => gameB m obj (List.replicate m.doms.length false) k (x ++ [v])) (valsI (m.doms.getD x.length 0)) 0 false).1 v hv ih.1
      omega
/-- What is attained: a solution's value. -/
theorem att_sol {m : Mod} {obj : List Int} {fa : List Bool} (h : (gameB m obj fa m.doms.length []).2 = true) : ∃ x ∈ sols m, dotTo obj x m.doms.length = (gameB m obj fa m.doms.length []).1 := by
  obtain ⟨r, hr, h1, h2⟩ := game_att obj fa m.doms.length [] (by simp) h
  exact ⟨r, sols_mem.2 ⟨mem_tupL.1 (by simpa using hr), by simpa using h1⟩, by simpa using h2⟩
theorem min_sol {m : Mod} {obj : List Int} {x : List Int} (h : x ∈ sols m) : (gameB m obj (List.replicate m.doms.length false) m.doms.length []).2 = true ∧ (gameB m obj (List.replicate m.doms.length false) m.doms.length []).1 ≤ dotTo obj x m.doms.length := by
  have h1 := sols_mem.1 h
  exact game_min obj m.doms.length [] (by simp) x (by simpa using mem_tupL.2 h1.1) h1.2
theorem mm_some {m : Mod} {obj : List Int} {fa : List Bool} (h : (minimaxB m obj fa).2 = true) : mmB m obj fa = true ∧ (gameB m obj fa m.doms.length []).2 = true ∧ (minimaxB m obj fa).1 = (gameB m obj fa m.doms.length []).1 := by
  unfold minimaxB at h ⊢
  split at h
  · rename_i h1
    rw [if_pos h1]
    split at h
    · rename_i h2; rw [if_pos h2]; exact ⟨h1, h2, rfl⟩
    · cases h
  · cases h
/-- A formula is true if and only if the game has a value. -/
theorem att_win {m : Mod} {obj : List Int} {fa : List Bool} (hv : validModB m = true) (h0 : m.doms.contains 0 = false) (ho : objOkB m obj = true) : qtrueB m fa = (minimaxB m obj fa).2 := by
  have hM : MOk m := ⟨hv⟩
  unfold minimaxB mmB gOkB qtrueB
  rw [h0, ho]
  cases fOkB m fa with
  | false => simp
  | true =>
    have := game_win hM h0 obj fa m.doms.length [] (by simp)
    simp only [Bool.not_false, Bool.and_true, if_true, Bool.true_and]
    rw [← this]
    split <;> simp_all
/-- The value of an objective, as the program gives it. -/
def objVal (obj x : List Int) : Int := if (((decide ((obj.length : Int) ≠ (x.length : Int)) || decide ((4 : Int) < (obj.length : Int))) || !(allInB obj (-9) 9)) || !(allInB x 0 5)) = true then 0 else dotTo obj x x.length
theorem objVal_sol {m : Mod} {obj x : List Int} (ho : objOkB m obj = true) (hx : x ∈ sols m) : objVal obj x = dotTo obj x m.doms.length := by
  have h1 := objok ho
  have h2 := sols_len hx
  unfold objVal
  have h3 : allInB obj (-9) 9 = true := by rw [allInB_iff]; exact h1.2.2
  have := h1.1.n
  rw [if_neg, h2]
  rw [h3, allIn_of (sols_vals hx), h2, h1.2.1]
  simp; omega
theorem att_law {m : Mod} {obj : List Int} {fa : List Bool} (h : (minimaxB m obj fa).2 = true) : (sols m).any (fun x => decide (objVal obj x = (minimaxB m obj fa).1)) = true := by
  obtain ⟨h1, h2, h3⟩ := mm_some h
  have ho : objOkB m obj = true := by unfold mmB at h1; simp only [Bool.and_eq_true] at h1; exact h1.2
  obtain ⟨x, hx, h4⟩ := att_sol h2
  refine List.any_eq_true.2 ⟨x, hx, decide_eq_true ?_⟩
  rw [objVal_sol ho hx, h3, h4]
/-- The least value over the solutions. -/
def minI (m : Mod) (obj : List Int) : List Int × Bool := if objOkB m obj = true then bestI (fun x => dotTo obj x x.length) (sols m) else ([], false)
theorem min_law {m : Mod} {obj : List Int} {fa : List Bool} (h : (minimaxB m obj fa).2 = true) :
    qtrueB m fa = true ∧ (minimaxB m obj (List.replicate m.doms.length false)).2 = true ∧ (minI m obj).2 = true ∧ (minimaxB m obj (List.replicate m.doms.length false)).1 = objVal obj (minI m obj).1 ∧ (minimaxB m obj (List.replicate m.doms.length false)).1 ≤ (minimaxB m obj fa).1 := by
  obtain ⟨h1, h2, h3⟩ := mm_some h
  have ho : objOkB m obj = true := by unfold mmB at h1; simp only [Bool.and_eq_true] at h1; exact h1.2
  have hg : gOkB m fa = true := by unfold mmB at h1; simp only [Bool.and_eq_true] at h1; exact h1.1
  have h0 : m.doms.contains 0 = false := by unfold gOkB at hg; simp only [Bool.and_eq_true, Bool.not_eq_true'] at hg; exact hg.2
  have hM := (objok ho).1
  obtain ⟨x, hx, h4⟩ := att_sol h2
  have hm := min_sol (obj := obj) hx
  have hgF : gOkB m (List.replicate m.doms.length false) = true := by unfold gOkB fOkB; rw [h0, hM.v]; simp
  have eF : minimaxB m obj (List.replicate m.doms.length false) = ((gameB m obj (List.replicate m.doms.length false) m.doms.length []).1, true) := by
    unfold minimaxB mmB; rw [hgF, ho, if_pos (by rfl), if_pos hm.1]
  have hpos : 0 < (sols m).length := List.length_pos_of_mem hx
  refine ⟨by rw [att_win hM.v h0 ho]; exact h, by rw [eF], ?_, ?_, ?_⟩
  · unfold minI; rw [if_pos ho]; unfold bestI; exact decide_eq_true (by omega)
  · rw [eF]
    rcases arg_law (fun x => dotTo obj x x.length) (sols m) (sols m).length with ⟨e, _⟩ | ⟨_, a1, a2, a3⟩
    · omega
    · have hy := getD_mem (d := []) (by omega : (argTo (fun x => dotTo obj x x.length) (sols m) (sols m).length).toNat < (sols m).length)
      unfold minI; rw [if_pos ho]; unfold bestI; rw [a3]
      try dsimp only
      rw [objVal_sol ho hy]
      obtain ⟨z, hz, h6⟩ := att_sol hm.1
      have h7 := min_sol (obj := obj) hy
      obtain ⟨j, hj, ez⟩ := List.getElem_of_mem hz
      have h8 := arg_least (p := fun x => dotTo obj x x.length) (xs := sols m) (sols m).length j hj
      rw [show (sols m).getD j [] = z from by simp [List.getD, hj, ez]] at h8
      try dsimp only at h8
      rw [sols_len hz, sols_len hy] at h8
      omega
  · rw [eF, h3]; have := hm.2; dsimp only; omega
theorem min_no {m : Mod} {obj : List Int} (h : (!(objOkB m obj)) = true) : minI m obj = ([], false) := by unfold minI; rw [if_neg (by simpa using h)]
theorem min_yes {m : Mod} {obj : List Int} (h : objOkB m obj = true) : minI m obj = bestI (fun x => dotTo obj x x.length) (sols m) := by unfold minI; rw [if_pos h]
theorem objVal_0 {obj x : List Int} (h : (((decide ((obj.length : Int) ≠ (x.length : Int)) || decide ((4 : Int) < (obj.length : Int))) || !(allInB obj (-9) 9)) || !(allInB x 0 5)) = true) : (0 : Int) = objVal obj x := by unfold objVal; rw [if_pos h]
theorem objVal_1 {obj x : List Int} (h : (((decide ((obj.length : Int) ≠ (x.length : Int)) || decide ((4 : Int) < (obj.length : Int))) || !(allInB obj (-9) 9)) || !(allInB x 0 5)) = false) : dotTo obj x x.length = objVal obj x := by unfold objVal; rw [if_neg (by rw [h]; simp)]
theorem objVal_ok {obj x : List Int} (h : (((decide ((obj.length : Int) ≠ (x.length : Int)) || decide ((4 : Int) < (obj.length : Int))) || !(allInB obj (-9) 9)) || !(allInB x 0 5)) = false) : Coef obj ∧ Vals x ∧ x.length = obj.length ∧ x.length ≤ 4 := by
  simp only [Bool.or_eq_false_iff, decide_eq_false_iff_not, Bool.not_eq_false', Decidable.not_not] at h
  refine ⟨allInB_iff.1 h.1.2, vals_of h.2, by omega, by omega⟩
theorem obj_one {z : Int} (h : z ∈ [1, 0, -1, 2, -9, 9]) : -9 ≤ z ∧ z ≤ 9 := by simp at h; omega
theorem full_step {m : Mod} {k : Nat} (h : k < m.doms.length) : ((validModB m && !((m.doms.take k).contains 0)) && decide (m.doms.getD k 0 ≠ 0)) = (validModB m && !((m.doms.take (k + 1)).contains 0)) := by
  rw [take_succ_getD 0 h, Bool.and_assoc]
  congr 1
  rw [Bool.eq_iff_iff]
  simp only [Bool.and_eq_true, Bool.not_eq_true', decide_eq_true_eq, ← Bool.not_eq_true, List.contains_iff_mem, List.mem_append, List.mem_singleton, not_or]
  exact ⟨fun h => ⟨h.1, fun e => h.2 e.symm⟩, fun h => ⟨h.1, fun e => h.2 e.symm⟩⟩
theorem att_abs {m : Mod} {obj : List Int} {fa : List Bool} {fu : Bool} {k : Nat} (c : ((fu && decide ((obj.length : Int) = (m.doms.length : Int))) && (qtrueB m fa != (minimaxB m obj fa).2)) = true) (e : fu = (validModB m && !((m.doms.take k).contains 0))) (hk : m.doms.length ≤ k) (hc : (obj.length : Int) = (m.doms.length : Int) → Coef obj) : False := by
  rw [List.take_of_length_le hk] at e
  simp only [Bool.and_eq_true, decide_eq_true_eq] at c
  obtain ⟨⟨h1, h2⟩, h3⟩ := c
  rw [e] at h1
  simp only [Bool.and_eq_true, Bool.not_eq_true'] at h1
  have ho : objOkB m obj = true := by
    unfold objOkB
    rw [h1.1, allInB_iff.2 (hc h2), h2]; simp
  rw [att_win h1.1 h1.2 ho] at h3
  simp at h3
theorem att_step {m : Mod} {obj : List Int} {fa : List Bool} {k : Nat} (h : k < (solL m).length) : ((decide ((20 : Int) < cntI m) || ((solL m).take k).any (fun x => decide (objVal obj x = (minimaxB m obj fa).1))) || decide (objVal obj ((solL m).getD k []) = (minimaxB m obj fa).1)) = (decide ((20 : Int) < cntI m) || ((solL m).take (k + 1)).any (fun x => decide (objVal obj x = (minimaxB m obj fa).1))) := by
  rw [take_succ_getD [] h, List.any_append, Bool.or_assoc]; simp
theorem att_fin {m : Mod} {obj : List Int} {fa : List Bool} {k : Nat} {b : Bool} (c : (decide ((k : Int) < ((solL m).length : Int)) && (minimaxB m obj fa).2) = false) (e : b = (decide ((20 : Int) < cntI m) || ((solL m).take k).any (fun x => decide (objVal obj x = (minimaxB m obj fa).1)))) : (!((minimaxB m obj fa).2) || b) = true := by
  cases h : (minimaxB m obj fa).2 with
  | false => rfl
  | true =>
    rw [h] at c
    simp only [Bool.and_true, decide_eq_false_iff_not] at c
    rw [List.take_of_length_le (by omega)] at e
    rw [e]
    have hv : validModB m = true := by
      have := (mm_some h).1
      unfold mmB gOkB fOkB at this
      simp only [Bool.and_eq_true] at this
      exact this.1.1.1
    by_cases h1 : (20 : Int) < cntI m
    · simp [h1]
    · have h2 : solL m = sols m := by
        unfold solL; rw [if_pos hv]; rw [← cnt_yes hv] at h1; exact List.take_of_length_le (by omega)
      rw [h2, att_law h]; simp
theorem mm_g2 {a : Bool} {m : Mod} {obj : List Int} {fa : List Bool} (h : (a || !((minimaxB m obj fa).2)) = false) : (minimaxB m obj fa).2 = true := by
  simp only [Bool.or_eq_false_iff, Bool.not_eq_false'] at h; exact h.2
theorem min_fin {m : Mod} {obj : List Int} {fa : List Bool} (h : (minimaxB m obj fa).2 = true) : ((((qtrueB m fa && (minimaxB m obj (List.replicate ((m.doms.length : Int)).toNat false)).2) && (minI m obj).2) && decide ((minimaxB m obj (List.replicate ((m.doms.length : Int)).toNat false)).1 = objVal obj (minI m obj).1)) && decide ((minimaxB m obj (List.replicate ((m.doms.length : Int)).toNat false)).1 ≤ (minimaxB m obj fa).1)) = true := by
  obtain ⟨h1, h2, h3, h4, h5⟩ := min_law h
  rw [Int.toNat_natCast, h1, h2, h3, decide_eq_true h4, decide_eq_true h5]; rfl
end Go.Proofs.YtkfioalfofoikaaGreat
