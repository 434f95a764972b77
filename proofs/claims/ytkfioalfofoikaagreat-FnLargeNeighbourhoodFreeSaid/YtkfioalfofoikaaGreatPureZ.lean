/- Plain law: ranks follow the lexicographic order. No program in sight. Conditions: none. -/
import Derived.Test.YtkfioalfofoikaaGreatPureV
namespace Go.Proofs.YtkfioalfofoikaaGreat
open Go
set_option linter.unusedSimpArgs false
set_option linter.unusedVariables false
def cmpI (a b : Int) : Int := if a < b then -1 else if b < a then 1 else 0
theorem cmpI_1 {a b : Int} (h : a < b) : (-1 : Int) = cmpI a b := by unfold cmpI; rw [if_pos h]
theorem cmpI_2 {a b : Int} (h : ¬ a < b) (h2 : b < a) : (1 : Int) = cmpI a b := by unfold cmpI; rw [if_neg h, if_pos h2]
theorem cmpI_3 {a b : Int} (h : ¬ a < b) (h2 : ¬ b < a) : (0 : Int) = cmpI a b := by unfold cmpI; rw [if_neg h, if_neg h2]
theorem cmpI_0 {a b : Int} (h : cmpI a b = 0) : a = b := by
  unfold cmpI at h
  split at h
  · omega
  · split at h
    · omega
    · omega
def lexC : List Int → List Int → Int
  | [], [] => 0
  | [], _ :: _ => -1
  | _ :: _, [] => 1
  | a :: ar, b :: bs => if cmpI a b ≠ 0 then cmpI a b else lexC ar bs
theorem lexC_self : ∀ x : List Int, lexC x x = 0
  | [] => rfl
  | a :: ar => by
    rw [lexC, if_neg (by unfold cmpI; simp), lexC_self ar]
theorem lexC_take : ∀ (k : Nat) (a b : List Int), a.length = b.length → k ≤ a.length → a.take k = b.take k → lexC a b = lexC (a.drop k) (b.drop k)
  | 0, a, b, _, _, _ => rfl
  | k + 1, [], b, _, h, _ => by simp at h
  | k + 1, a :: ar, [], hl, _, _ => by simp at hl
  | k + 1, a :: ar, b :: bs, hl, h, e => by
    simp only [List.take_succ_cons, List.cons.injEq] at e
    rw [List.drop_succ_cons, List.drop_succ_cons, lexC, if_neg (by rw [e.1]; unfold cmpI; simp)]
    exact lexC_take k ar bs (by simpa using hl) (by simpa using h) e.2
theorem lexC_hit {a b : List Int} {k : Nat} (hl : a.length = b.length) (hk : k < a.length) (e : a.take k = b.take k) (h : cmpI (a.getD k 0) (b.getD k 0) ≠ 0) : cmpI (a.getD k 0) (b.getD k 0) = lexC a b := by
  rw [lexC_take k a b hl (by omega) e, List.drop_eq_getElem_cons hk, List.drop_eq_getElem_cons (by omega : k < b.length), lexC]
  have e1 : a.getD k 0 = a[k] := by simp [List.getD, hk]
  have e2 : b.getD k 0 = b[k]'(by omega) := by simp [List.getD, (by omega : k < b.length)]
  rw [← e1, ← e2, if_pos h]
theorem lexC_end {a b : List Int} {k : Nat} (hl : a.length = b.length) (hk : k = a.length) (e : a.take k = b.take k) : (0 : Int) = lexC a b := by
  subst hk
  rw [List.take_length, hl, List.take_length] at e
  rw [e]; exact (lexC_self b).symm
theorem lexC_step {a b : List Int} {k : Nat} (hl : a.length = b.length) (hk : k < a.length) (e : a.take k = b.take k) (h : cmpI (a.getD k 0) (b.getD k 0) = 0) : a.take (k + 1) = b.take (k + 1) := by
  rw [take_succ_getD 0 hk, take_succ_getD 0 (by omega : k < b.length), e, cmpI_0 h]
end Go.Proofs.YtkfioalfofoikaaGreat
