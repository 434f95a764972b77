/- Plain law: the checker accepts the plays of a strategy. No program in sight. Conditions: none. -/
import Derived.Test.YtiilanckbocifaaGreatPurePl
namespace Go.Proofs.YtiilanckbocifaaGreat
open Go
set_option linter.unusedSimpArgs false
set_option linter.unusedVariables false
section st
variable {m : Mod} {fa : List Bool}
end st
theorem ck_go {m : Mod} {fa : List Bool} {l : List (List Int)} (h : ((chkI m fa l != chkS m fa l) || !(chkI m fa l)) = false) : chkI m fa l = true := by
  revert h; cases chkI m fa l <;> simp
theorem ck_ret {m : Mod} {fa : List Bool} {l : List (List Int)} (h : True) : (chkI m fa l == chkS m fa l) = true := by rw [chk_eq]; simp
theorem str_rows (m : Mod) (fa : List Bool) : (strL m fa).length ≤ 1296 ∧ ∀ r ∈ strL m fa, 1 ≤ r.length ∧ r.length ≤ 5 := by
  unfold strL
  split
  · rename_i h
    obtain ⟨hM, hf, hw⟩ := str_ok h
    have hn := hM.n
    refine ⟨Nat.le_trans (playS_len m fa _ _) (pow6 (by omega)), fun r hr => ?_⟩
    have := playS_row m fa _ _ r hr
    simp only [List.length_nil] at this; omega
  · exact ⟨by simp, fun r hr => by cases hr⟩
theorem rows_two {a b : List Int} (h1 : 1 ≤ a.length ∧ a.length ≤ 5) (h2 : 1 ≤ b.length ∧ b.length ≤ 5) : [a, b].length ≤ 1296 ∧ ∀ r ∈ [a, b], 1 ≤ r.length ∧ r.length ≤ 5 := ⟨by simp, fun r hr => by
  simp only [List.mem_cons, List.not_mem_nil, or_false] at hr
  rcases hr with rfl | rfl
  · exact h1
  · exact h2⟩
theorem rows_hall {l : List (List Int)} (h : (0 : Int) < (l.length : Int)) (hr : l.length ≤ 1296 ∧ ∀ r ∈ l, 1 ≤ r.length ∧ r.length ≤ 5) : 0 < l.length ∧ l.length ≤ 1296 ∧ ∀ r ∈ l, 1 ≤ r.length ∧ r.length ≤ 5 := ⟨by omega, hr⟩
theorem rows_z {l : List (List Int)} (h : ¬ (0 : Int) < (l.length : Int)) : l.length ≤ 2000 := by omega
end Go.Proofs.YtiilanckbocifaaGreat
