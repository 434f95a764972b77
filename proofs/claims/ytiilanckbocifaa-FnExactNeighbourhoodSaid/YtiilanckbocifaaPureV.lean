/- Laws of ranks and of quantified formulas over all solutions. No program in sight. Conditions: none. -/
import Derived.Test.YtiilanckbocifaaPureR
namespace Go.Proofs.Ytiilanckbocifaa
open Go
set_option linter.unusedSimpArgs false
set_option linter.unusedVariables false
theorem valsI_nodup (d : Int) : (valsI d).Pairwise (· ≠ ·) := by
  simp only [valsI, membersTo, natsI]
  rw [List.pairwise_map]
  refine (List.Pairwise.filter _ (List.nodup_range (n := 6))).imp fun h e => h (by omega)
theorem tupL_nodup : ∀ ds : List Int, (tupL ds).Pairwise (· ≠ ·)
  | [] => by simp [tupL]
  | d :: ds => by
    rw [tupL, List.pairwise_flatMap]
    refine ⟨fun v _ => ?_, (valsI_nodup d).imp fun {a b} hab x hx y hy => ?_⟩
    · rw [List.pairwise_map]; exact (tupL_nodup ds).imp fun h e => h (List.cons.inj e).2
    · obtain ⟨r, _, rfl⟩ := List.mem_map.1 hx
      obtain ⟨s, _, rfl⟩ := List.mem_map.1 hy
      exact fun e => hab (List.cons.inj e).1
theorem sols_nodup (m : Mod) : (sols m).Pairwise (· ≠ ·) := (tupL_nodup m.doms).filter _
theorem index_nodup {A : Type} [DecidableEq A] {xs : List A} {k : Nat} {d : A} (h : xs.Pairwise (· ≠ ·)) (hk : k < xs.length) : indexBy (fun y => decide (xs.getD k d = y)) xs = (k : Int) := by
  refine (indexBy_hit (d := d) hk ?_ (decide_eq_true rfl)).symm
  rw [List.any_eq_false]
  intro y hy
  obtain ⟨i, hi, rfl⟩ := List.getElem_of_mem hy
  rw [List.length_take] at hi
  rw [List.getElem_take]
  have := List.pairwise_iff_getElem.1 h i k (by omega) hk (by omega)
  intro e
  have e2 : xs.getD k d = xs[i] := by simpa using e
  rw [show xs.getD k d = xs[k] from by simp [List.getD, hk]] at e2
  exact this e2.symm
theorem sols_mem {m : Mod} {x : List Int} : x ∈ sols m ↔ Box m.doms x ∧ metB m x = true := by
  unfold sols solT; rw [List.mem_filter, mem_tupL]
theorem sols_isSol {m : Mod} (hM : MOk m) {x : List Int} (h : x ∈ sols m) : isSolT m x = true := by
  obtain ⟨hb, hm⟩ := sols_mem.1 h
  have h1 := hb.1
  unfold isSolT isSolB
  rw [hM.v, hm, allIn_of hb.vals, decide_eq_true (by omega)]
  have : inDomB m x = true := List.all_eq_true.2 fun i hi => (mem_valsI.1 (hb.2 i (by have := List.mem_range.1 hi; omega))).2
  rw [this]; rfl
def cntI (m : Mod) : Int := if validModB m = true then ((sols m).length : Int) else -1
theorem cnt_no {m : Mod} (h : (!(validModB m)) = true) : (-1 : Int) = cntI m := by unfold cntI; rw [if_neg (by simpa using h)]
theorem cnt_yes {m : Mod} (h : validModB m = true) : ((sols m).length : Int) = cntI m := by unfold cntI; rw [if_pos h]
theorem rank_law {m : Mod} {r : Int} {a b : Bool} (h : (a || b || !(validModB m)) = false) : (((solAt m r).2 == (decide ((0 : Int) ≤ r) && decide (r < cntI m))) && (!((solAt m r).2) || decide (rankI m (solAt m r).1 = r))) = true := by
  have hv : validModB m = true := by revert h; cases validModB m <;> simp
  rw [← cnt_yes hv]
  have hM : MOk m := ⟨hv⟩
  by_cases hw : withinB r 0 (((sols m).length : Int) - 1) = true
  · have e : solAt m r = ((sols m).getD r.toNat [], true) := by unfold solAt; rw [if_pos ⟨hv, hw⟩]
    have hb := withinB_iff.1 hw
    rw [e]
    have hlt : r.toNat < (sols m).length := by omega
    have h1 : rankI m ((sols m).getD r.toNat []) = r := by
      unfold rankI
      rw [if_pos (sols_isSol hM (getD_mem hlt)), index_nodup (sols_nodup m) hlt]; omega
    simp only [h1]
    rw [decide_eq_true (by omega : (0 : Int) ≤ r), decide_eq_true (by omega : r < ((sols m).length : Int))]; simp
  · have e : solAt m r = ([], false) := by unfold solAt; rw [if_neg (fun h => hw h.2)]
    rw [e]
    have : (decide ((0 : Int) ≤ r) && decide (r < ((sols m).length : Int))) = false := by
      rw [Bool.eq_false_iff]; intro h2
      simp only [Bool.and_eq_true, decide_eq_true_eq] at h2
      exact hw (withinB_iff.2 ⟨h2.1, by omega⟩)
    rw [this]; rfl
/-! Formulas with one quantifier for all. -/
def prodTo (ds : List Int) : Nat → Int
  | 0 => 1
  | k + 1 => prodTo ds k * popI (ds.getD k 0)
theorem tupL_snoc (d : Int) : ∀ ds : List Int, (tupL (ds ++ [d])).length = (tupL ds).length * (valsI d).length
  | [] => by rw [List.nil_append, tup_len]
  | e :: ds => by rw [List.cons_append, tup_len, tup_len, tupL_snoc d ds, Nat.mul_right_comm]
theorem prod_tup (ds : List Int) : ∀ k, k ≤ ds.length → prodTo ds k = ((tupL (ds.take k)).length : Int)
  | 0, _ => by simp [prodTo, tupL]
  | k + 1, h => by
    rw [prodTo, prod_tup ds k (by omega), take_succ_getD 0 (by omega), tupL_snoc]
    simp [popI]
theorem prod_few {ds : List Int} (h : ds.length ≤ 4) {k : Nat} (hk : k ≤ ds.length) : 0 ≤ prodTo ds k ∧ prodTo ds k ≤ 1296 := by
  rw [prod_tup ds k hk]
  have := tupL_few (ds := ds.take k) (by rw [List.length_take]; omega)
  omega
theorem win_any (m : Mod) : ∀ (k : Nat) (x : List Int), x.length + k = m.doms.length → winB m (List.replicate m.doms.length false) k x = (tupL (m.doms.drop x.length)).any (fun r => metB m (x ++ r))
  | 0, x, h => by rw [winB, List.drop_eq_nil_of_le (by omega)]; simp [tupL]
  | k + 1, x, h => by
    rw [winB, if_neg (by simp [List.getD, show x.length < m.doms.length by omega]), List.drop_eq_getElem_cons (by omega), tupL, List.any_flatMap]
    rw [show m.doms[x.length] = m.doms.getD x.length 0 from by simp [List.getD, show x.length < m.doms.length by omega]]
    congr 1; funext v
    rw [win_any m k (x ++ [v]) (by simp; omega), List.any_map, List.length_append]
    simp [Function.comp_def]
theorem win_all (m : Mod) : ∀ (k : Nat) (x : List Int), x.length + k = m.doms.length → winB m (List.replicate m.doms.length true) k x = (tupL (m.doms.drop x.length)).all (fun r => metB m (x ++ r))
  | 0, x, h => by rw [winB, List.drop_eq_nil_of_le (by omega)]; simp [tupL]
  | k + 1, x, h => by
    rw [winB, if_pos (by simp [List.getD, show x.length < m.doms.length by omega]), List.drop_eq_getElem_cons (by omega), tupL, List.all_flatMap]
    rw [show m.doms[x.length] = m.doms.getD x.length 0 from by simp [List.getD, show x.length < m.doms.length by omega]]
    congr 1; funext v
    rw [win_all m k (x ++ [v]) (by simp; omega), List.all_map, List.length_append]
    simp [Function.comp_def]
theorem any_filter {A : Type} (p : A → Bool) : ∀ xs : List A, xs.any p = decide ((0 : Int) < ((xs.filter p).length : Int))
  | [] => by simp
  | x :: xs => by
    rw [List.any_cons, List.filter_cons, any_filter p xs]
    cases p x with
    | true => simp
    | false => simp
theorem all_filter {A : Type} (p : A → Bool) (xs : List A) : xs.all p = decide (((xs.filter p).length : Int) = (xs.length : Int)) := by
  rw [Bool.eq_iff_iff, decide_eq_true_eq, List.all_eq_true]
  constructor
  · intro h; rw [List.filter_eq_self.2 h]
  · intro h
    have := List.length_filter_eq_length_iff.1 (by omega : (xs.filter p).length = xs.length)
    exact this
theorem plain_law {m : Mod} {a : Bool} (h : (a || !(validModB m)) = false) :
    ((qtrueB m (List.replicate m.doms.length false) == decide ((0 : Int) < cntI m)) && (qtrueB m (List.replicate m.doms.length true) == decide (cntI m = prodTo m.doms m.doms.length))) = true := by
  have hv : validModB m = true := by revert h; cases validModB m <;> simp
  have e1 : qtrueB m (List.replicate m.doms.length false) = decide ((0 : Int) < cntI m) := by
    unfold qtrueB fOkB
    rw [hv, win_any m _ [] (by simp), ← cnt_yes hv]
    simp only [List.length_replicate, List.nil_append, List.length_nil, List.drop_zero]
    rw [any_filter]; simp [sols, solT]
  have e2 : qtrueB m (List.replicate m.doms.length true) = decide (cntI m = prodTo m.doms m.doms.length) := by
    unfold qtrueB fOkB
    rw [hv, win_all m _ [] (by simp), ← cnt_yes hv, prod_tup _ _ (Nat.le_refl _), List.take_length]
    simp only [List.length_replicate, List.nil_append, List.length_nil, List.drop_zero]
    rw [all_filter]; rfl
  rw [e1, e2]; simp
theorem qp_ok {m : Mod} {a : Bool} (h : (a || !(validModB m)) = false) : MOk m := ⟨by revert h; cases validModB m <;> simp⟩
/-- All solutions, if they are few. -/
def solL (m : Mod) : List (List Int) := if validModB m = true then (sols m).take 20 else []
theorem solL_no {m : Mod} (h : (!(validModB m)) = true) : solL m = [] := by unfold solL; rw [if_neg (by simpa using h)]
theorem solL_nw {m : Mod} (h : (!(validModB m) || !(withinB 20 0 20)) = true) : solL m = [] := solL_no (by revert h; cases validModB m <;> simp [withinB])
theorem solL_yes {m : Mod} (h : validModB m = true) : (sols m).take (Int.toNat (min 20 ((sols m).length : Int))) = solL m := by
  unfold solL; rw [if_pos h]
  by_cases h1 : (sols m).length ≤ 20
  · rw [List.take_of_length_le h1, List.take_of_length_le (by omega)]
  · congr 1; omega
theorem solL_mem {m : Mod} {x : List Int} (h : x ∈ solL m) : x ∈ sols m := by
  unfold solL at h
  split at h
  · exact List.mem_of_mem_take h
  · cases h
theorem solL_few {m : Mod} : (solL m).length ≤ 20 := by
  unfold solL
  split
  · rw [List.length_take]; omega
  · simp
theorem solL_all {m : Mod} (h : cntI m ≤ 20) (hv : validModB m = true) : solL m = sols m := by
  unfold solL; rw [if_pos hv]; rw [← cnt_yes hv] at h; exact List.take_of_length_le (by omega)
theorem solLk_len {m : Mod} {k : Nat} (h : (k : Int) < ((solL m).length : Int)) : ((solL m).getD k []).length = m.doms.length := sols_len (solL_mem (getD_mem (by omega)))
end Go.Proofs.Ytiilanckbocifaa
