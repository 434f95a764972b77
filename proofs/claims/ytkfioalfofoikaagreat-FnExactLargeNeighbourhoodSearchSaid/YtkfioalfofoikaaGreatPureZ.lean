/- Plain law: ranks follow the lexicographic order. No program in sight. Conditions: none. -/
import Derived.Test.YtkfioalfofoikaaGreatPureV
namespace Go.Proofs.YtkfioalfofoikaaGreat
open Go
set_option linter.unusedSimpArgs false
set_option linter.unusedVariables false
def cmpI (a b : Int) : Int := if a < b then -1 else if b < a then 1 else 0
theorem cmpI_1 {a b : Int} (h : a < b) : (-1 : Int) = cmpI a b := by unfold cmpI; rw [if_pos h]
theorem cmpI_2 {a b : Int} (h : ¬ a < b) (h2 : b < a) : (1 : Int) = cmpI a b := by unfold cmpI; rw [if_neg h, if_pos h2]
theorem cmpI_3 {a b : Int} (h : ¬ a < b) (h2 : ¬ b < a) : (0 : Int) = cmpI a b := by unfold cmpI; rw [if_neg h, if_neg h2]
theorem cmpI_0 {a b : Int} (h : cmpI a b = 0) : a = b := by
  unfold cmpI at h
  split at h
  · omega
  · split at h
    · omega
    · omega
theorem cmpI_in (a b : Int) : -1 ≤ cmpI a b ∧ cmpI a b ≤ 1 := by unfold cmpI; split <;> (try split) <;> omega
theorem cmpI_s (a : Int) : cmpI a a = 0 := by unfold cmpI; simp
def lexC : List Int → List Int → Int
  | [], [] => 0
  | [], _ :: _ => -1
  | _ :: _, [] => 1
  | a :: ar, b :: bs => if cmpI a b ≠ 0 then cmpI a b else lexC ar bs
theorem lexC_self : ∀ x : List Int, lexC x x = 0
  | [] => rfl
  | a :: ar => by
    rw [lexC, if_neg (by unfold cmpI; simp), lexC_self ar]
theorem lexC_take : ∀ (k : Nat) (a b : List Int), a.length = b.length → k ≤ a.length → a.take k = b.take k → lexC a b = lexC (a.drop k) (b.drop k)
  | 0, a, b, _, _, _ => rfl
  | k + 1, [], b, _, h, _ => by simp at h
  | k + 1, a :: ar, [], hl, _, _ => by simp at hl
  | k + 1, a :: ar, b :: bs, hl, h, e => by
    simp only [List.take_succ_cons, List.cons.injEq] at e
    rw [List.drop_succ_cons, List.drop_succ_cons, lexC, if_neg (by rw [e.1]; unfold cmpI; simp)]
    exact lexC_take k ar bs (by simpa using hl) (by simpa using h) e.2
theorem lexC_hit {a b : List Int} {k : Nat} (hl : a.length = b.length) (hk : k < a.length) (e : a.take k = b.take k) (h : cmpI (a.getD k 0) (b.getD k 0) ≠ 0) : cmpI (a.getD k 0) (b.getD k 0) = lexC a b := by
  rw [lexC_take k a b hl (by omega) e, List.drop_eq_getElem_cons hk, List.drop_eq_getElem_cons (by omega : k < b.length), lexC]
  have e1 : a.getD k 0 = a[k] := by simp [List.getD, hk]
  have e2 : b.getD k 0 = b[k]'(by omega) := by simp [List.getD, (by omega : k < b.length)]
  rw [← e1, ← e2, if_pos h]
theorem lexC_end {a b : List Int} {k : Nat} (hl : a.length = b.length) (hk : k = a.length) (e : a.take k = b.take k) : (0 : Int) = lexC a b := by
  subst hk
  rw [List.take_length, hl, List.take_length] at e
  rw [e]; exact (lexC_self b).symm
theorem lexC_step {a b : List Int} {k : Nat} (hl : a.length = b.length) (hk : k < a.length) (e : a.take k = b.take k) (h : cmpI (a.getD k 0) (b.getD k 0) = 0) : a.take (k + 1) = b.take (k + 1) := by
  rw [take_succ_getD 0 hk, take_succ_getD 0 (by omega : k < b.length), e, cmpI_0 h]
theorem lexC_anti : ∀ (x y : List Int), lexC x y = -lexC y x
  | [], [] => rfl
  | [], _ :: _ => rfl
  | _ :: _, [] => rfl
  | a :: ar, b :: bs => by
    have h : cmpI a b = -cmpI b a := by unfold cmpI; repeat' split <;> omega
    rw [lexC, lexC, h]
    by_cases e : cmpI b a = 0
    · rw [e, if_neg (by simp), if_neg (by simp)]; exact lexC_anti ar bs
    · rw [if_pos (by omega), if_pos e]
theorem valsI_inc (d : Int) : (valsI d).Pairwise (· < ·) := by
  simp only [valsI, membersTo, natsI]
  rw [List.pairwise_map]
  exact (List.Pairwise.filter _ (List.pairwise_lt_range (n := 6))).imp fun h => by omega
theorem tupL_inc : ∀ ds : List Int, (tupL ds).Pairwise (fun x y => 0 < lexC y x)
  | [] => by simp [tupL]
  | d :: ds => by
    rw [tupL, List.pairwise_flatMap]
    refine ⟨fun v _ => ?_, ?_⟩
    · rw [List.pairwise_map]
      refine (tupL_inc ds).imp fun {x y} h => ?_
      rw [lexC, if_neg (by rw [cmpI_s]; simp)]; exact h
    · refine (valsI_inc d).imp fun {u v} h => ?_
      intro x hx y hy
      obtain ⟨x', _, rfl⟩ := List.mem_map.1 hx
      obtain ⟨y', _, rfl⟩ := List.mem_map.1 hy
      have e : cmpI v u = 1 := by unfold cmpI; rw [if_neg (by omega), if_pos h]
      rw [lexC, e, if_pos (by decide)]; decide
theorem sols_inc (m : Mod) : (sols m).Pairwise (fun x y => 0 < lexC y x) := (tupL_inc m.doms).filter _
/-- The next one behind x. -/
def nextL (m : Mod) (x : List Int) : List Int × Bool := match (sols m).find? (fun y => decide (0 < lexC y x)) with
  | some y => (y, true)
  | none => ([], false)
def nextI (m : Mod) (x : List Int) : List Int × Bool := if (!(validModB m) || !(decide ((x.length : Int) = (m.doms.length : Int)) && allInB x 0 5)) = true then ([], false) else nextL m x
theorem next_no {m : Mod} {x : List Int} (h : (!(validModB m) || !(decide ((x.length : Int) = (m.doms.length : Int)) && allInB x 0 5)) = true) : nextI m x = ([], false) := by unfold nextI; rw [if_pos h]
theorem next_ok {m : Mod} {x : List Int} (h : (!(validModB m) || !(decide ((x.length : Int) = (m.doms.length : Int)) && allInB x 0 5)) = false) : MOk m ∧ x.length = m.doms.length := by
  rw [← Bool.not_and] at h
  simp only [Bool.not_eq_false', Bool.and_eq_true, decide_eq_true_eq] at h
  exact ⟨⟨h.1⟩, by omega⟩
theorem next_hit {m : Mod} {x : List Int} {k : Nat} (h : (!(validModB m) || !(decide ((x.length : Int) = (m.doms.length : Int)) && allInB x 0 5)) = false) (hk : k < (sols m).length) (ha : ((sols m).take k).all (fun y => !(decide (0 < lexC y x))) = true) (c : 0 < lexC ((sols m).getD k []) x) : nextI m x = ((sols m).getD k [], true) := by
  unfold nextI nextL; rw [if_neg (by rw [h]; simp)]
  have e : (sols m).find? (fun y => decide (0 < lexC y x)) = some ((sols m).getD k []) := by
    conv => lhs; rw [← List.take_append_drop k (sols m)]
    rw [List.find?_append, List.find?_eq_none.2 (fun y hy => by have := List.all_eq_true.1 ha y hy; simpa using this), List.drop_eq_getElem_cons hk]
    rw [show (sols m)[k] = (sols m).getD k [] from by simp [List.getD, hk], List.find?_cons, decide_eq_true c]; rfl
  rw [e]
theorem next_none {m : Mod} {x : List Int} {k : Nat} (h : (!(validModB m) || !(decide ((x.length : Int) = (m.doms.length : Int)) && allInB x 0 5)) = false) (hk : (sols m).length ≤ k) (ha : ((sols m).take k).all (fun y => !(decide (0 < lexC y x))) = true) : nextI m x = ([], false) := by
  unfold nextI nextL; rw [if_neg (by rw [h]; simp)]
  rw [List.take_of_length_le hk] at ha
  rw [List.find?_eq_none.2 (fun y hy => by have := List.all_eq_true.1 ha y hy; simpa using this)]
theorem next_step {m : Mod} {x : List Int} {k : Nat} (hk : k < (sols m).length) (ha : ((sols m).take k).all (fun y => !(decide (0 < lexC y x))) = true) (c : ¬ 0 < lexC ((sols m).getD k []) x) : ((sols m).take (k + 1)).all (fun y => !(decide (0 < lexC y x))) = true := by
  rw [take_succ_getD [] hk, List.all_append, ha]; simpa using c
theorem isSolT_mem {m : Mod} {x : List Int} (h : isSolT m x = true) : x ∈ sols m := by
  unfold isSolT isSolB inDomB at h
  simp only [Bool.and_eq_true, decide_eq_true_eq, List.all_eq_true, List.mem_range] at h
  obtain ⟨⟨h1, h2, h3⟩, h4, h5⟩ := h
  refine sols_mem.2 ⟨⟨by omega, fun i hi => mem_valsI.2 ⟨(vals_of h3).at (by omega), h4 i (by omega)⟩⟩, h5⟩
theorem ro_ok {m : Mod} {x : List Int} (h : ¬ rankI m x < 0) : isSolT m x = true ∧ MOk m ∧ (sols m).length ≤ 1296 ∧ ∃ k : Nat, k < (sols m).length ∧ rankI m x = (k : Int) ∧ (sols m).getD k [] = x := by
  by_cases hs : isSolT m x = true
  · have hM := isSolT_ok hs
    obtain ⟨k, hk, e⟩ := List.getElem_of_mem (isSolT_mem hs)
    have e2 : (sols m).getD k [] = x := by simp [List.getD, hk, e]
    refine ⟨hs, hM, sols_few hM, k, hk, ?_, e2⟩
    unfold rankI; rw [if_pos hs, ← e2]
    exact index_nodup (sols_nodup m) hk
  · unfold rankI at h; rw [if_neg hs] at h; omega
theorem ro_le {m : Mod} {x : List Int} (h : ¬ rankI m x < 0) : 0 ≤ rankI m x ∧ rankI m x ≤ 1296 := by
  obtain ⟨_, _, h1, k, h2, h3, _⟩ := ro_ok h; omega
theorem ro_neg {m : Mod} {x : List Int} (h : rankI m x < 0) : (!(isSolT m x)) = true := by
  cases e : isSolT m x with
  | false => rfl
  | true =>
    obtain ⟨k, hk, e1⟩ := List.getElem_of_mem (isSolT_mem e)
    have e2 : (sols m).getD k [] = x := by simp [List.getD, hk, e1]
    unfold rankI at h
    rw [if_pos e, ← e2, index_nodup (sols_nodup m) hk] at h
    omega
theorem ro_law {m : Mod} {x : List Int} (h : ¬ rankI m x < 0) :
    ((((isSolT m x && (solAt m (rankI m x)).2) && decide (x = (solAt m (rankI m x)).1)) && ((nextI m x).2 == decide (rankI m x + 1 < cntI m))) && (!((nextI m x).2) || decide (rankI m (nextI m x).1 = rankI m x + 1))) = true := by
  obtain ⟨hs, hM, hf, k, hk, hr, hx⟩ := ro_ok h
  have hA : solAt m (rankI m x) = (x, true) := by
    unfold solAt
    rw [if_pos ⟨hM.v, withinB_iff.2 ⟨by omega, by omega⟩⟩, hr, Int.toNat_natCast, hx]
  have hc : cntI m = ((sols m).length : Int) := (cnt_yes hM.v).symm
  have hg : (!(validModB m) || !(decide ((x.length : Int) = (m.doms.length : Int)) && allInB x 0 5)) = false := by
    unfold isSolT at hs
    simp only [Bool.and_eq_true] at hs
    rw [hs.1.1, hs.1.2.1, hs.1.2.2]; rfl
  have hpw := List.pairwise_iff_getElem.1 (sols_inc m)
  have hgt : ∀ j, j < (sols m).length → (0 < lexC ((sols m).getD j []) x ↔ k < j) := fun j hj => by
    have ej : (sols m).getD j [] = (sols m)[j] := by simp [List.getD, hj]
    have ek : (sols m)[k] = x := by rw [← hx]; simp [List.getD, hk]
    rw [ej, ← ek]
    constructor
    · intro hp
      rcases Nat.lt_trichotomy j k with h1 | h1 | h1
      · have := hpw j k hj hk h1; have h2 := lexC_anti (sols m)[j] (sols m)[k]; omega
      · subst h1; rw [lexC_self] at hp; omega
      · exact h1
    · intro h1; exact hpw k j hk hj h1
  rw [hs, hA, hc, hr]
  have hall : ∀ n, n ≤ k + 1 → n ≤ (sols m).length → ((sols m).take n).all (fun y => !(decide (0 < lexC y x))) = true := fun n hn hn2 => by
    rw [List.all_eq_true]; intro y hy
    obtain ⟨j, hj, rfl⟩ := List.getElem_of_mem hy
    rw [List.length_take] at hj
    have h1 := hgt j (by omega)
    rw [List.getElem_take, show (sols m)[j] = (sols m).getD j [] from by simp [List.getD, (by omega : j < (sols m).length)]]
    have h2 : ¬ 0 < lexC ((sols m).getD j []) x := fun h3 => by have := h1.1 h3; omega
    rw [decide_eq_false h2]; rfl
  by_cases hn : k + 1 < (sols m).length
  · have e := next_hit hg hn (hall (k + 1) (Nat.le_refl _) (by omega)) ((hgt (k + 1) hn).2 (by omega))
    have hr2 : rankI m ((sols m).getD (k + 1) []) = ((k + 1 : Nat) : Int) := by
      unfold rankI; rw [if_pos (sols_isSol hM (getD_mem hn))]; exact index_nodup (sols_nodup m) hn
    rw [e]
    dsimp only
    rw [hr2]
    have h3 : ((k : Int) + 1 < ((sols m).length : Int)) := by omega
    simp [h3]
  · have e := next_none hg (by omega) (hall (sols m).length (by omega) (Nat.le_refl _))
    rw [e]
    have h3 : ¬ ((k : Int) + 1 < ((sols m).length : Int)) := by omega
    simp [h3]
end Go.Proofs.YtkfioalfofoikaaGreat
