/- Plain law: the model of some variables. A solution's values for the variables solve it, and the model of all variables is the model itself. No program in sight. Conditions: none. -/
import Derived.Test.YtojinjdobjodaaaGreatPureE
import Derived.Test.YtojinjdobjodaaaGreatPureX
import Derived.Test.YtojinjdobjodaaaGreatRdr
namespace Go.Proofs.YtojinjdobjodaaaGreat
open Go
set_option linter.unusedSimpArgs false
set_option linter.unusedVariables false
theorem nodup_sub_len : ∀ {xs ys : List Int}, xs.Nodup → (∀ x ∈ xs, x ∈ ys) → xs.length ≤ ys.length
  | [], _, _, _ => Nat.zero_le _
  | x :: xs, ys, hn, hs => by
    obtain ⟨h1, h2⟩ := List.nodup_cons.1 hn
    have h3 : xs.length ≤ (ys.erase x).length := nodup_sub_len h2 (fun y hy => (List.mem_erase_of_ne (fun e => h1 (by rw [← e]; exact hy))).2 (hs y (.tail _ hy)))
    have hm := hs x (.head _)
    rw [List.length_erase_of_mem hm] at h3
    have := List.length_pos_of_mem hm
    simp only [List.length_cons]; omega
theorem iota_sub {n : Nat} {vars : List Int} (hn : vars.Nodup) (h : ∀ v ∈ vars, (0 : Int) ≤ v ∧ v < n) : vars.length ≤ n := by
  have := nodup_sub_len (ys := natsI (List.range n)) hn (fun v hv => by
    have := h v hv
    exact List.mem_map.2 ⟨v.toNat, List.mem_range.2 (by omega), by omega⟩)
  simpa [natsI] using this
/-! The model of all variables. -/
/-! What the walks ask. -/
theorem rows_small {rows : List (List Int)} {n lo hi : Int} (h : rowsInB rows n lo hi = true) (hn : n ≤ 6) : rows.length ≤ 8 ∧ ∀ r ∈ rows, r.length ≤ 12 := by
  simp only [rowsInB, Bool.and_eq_true, withinB_iff, List.all_eq_true, decide_eq_true_eq] at h
  exact ⟨by omega, fun r hr => by have := (h.2 r hr).1; omega⟩
theorem rows_none {rows : List (List Int)} (h : (rows.length : Int) = 0) : rows.length ≤ 8 ∧ ∀ r ∈ rows, r.length ≤ 12 := by
  have e : rows = [] := List.eq_nil_of_length_eq_zero (by omega)
  subst e; exact ⟨by simp, fun r hr => by cases hr⟩
theorem con_small {c : Con} {n : Nat} (h : validConB c n = true) : ConSm 100 c := by
  simp only [validConB, Bool.and_eq_true, withinB_iff] at h
  obtain ⟨⟨⟨⟨h1, h2⟩, h3⟩, h4⟩, h5⟩ := h
  have hv : c.vars.length ≤ 4 := by omega
  have key : c.args.length ≤ 12 ∧ c.rows.length ≤ 8 ∧ ∀ r ∈ c.rows, r.length ≤ 12 := by
    unfold fitsB at h5
    split at h5
    · simp only [Bool.and_eq_true, decide_eq_true_eq] at h5; exact ⟨by omega, rows_none h5.2⟩
    · split at h5
      · simp only [Bool.and_eq_true, decide_eq_true_eq] at h5; exact ⟨by omega, rows_none h5.2⟩
      · split at h5
        · simp only [Bool.and_eq_true, decide_eq_true_eq] at h5; exact ⟨by omega, rows_none h5.2⟩
        · split at h5
          · simp only [Bool.and_eq_true, decide_eq_true_eq, withinB_iff] at h5; exact ⟨by omega, rows_none h5.2⟩
          · split at h5
            · simp only [Bool.and_eq_true, decide_eq_true_eq] at h5; exact ⟨by omega, rows_small h5.2 (by omega)⟩
            · split at h5
              · simp only [Bool.and_eq_true, decide_eq_true_eq] at h5; exact ⟨by omega, rows_none h5.2⟩
              · split at h5
                · simp only [Bool.and_eq_true, decide_eq_true_eq] at h5; exact ⟨by omega, rows_none h5.2⟩
                · split at h5
                  · simp only [Bool.and_eq_true, decide_eq_true_eq, allInB_iff] at h5
                    have hr := rows_small h5.1.1.1 (by omega)
                    have hd : c.args.Nodup := of_decide_eq_true h5.1.1.2
                    have := iota_sub (n := 8) hd (fun v hv => by have := h5.1.2 v hv; omega)
                    exact ⟨by omega, hr⟩
                  · cases h5
  exact ⟨by omega, by omega, by omega, by omega, key.2.2⟩
theorem ok_small {m : Mod} (h : MOk m) : ModSm 100 m := ⟨h.n.1, h.n.2, by have := h.few; omega, fun c hc => con_small (h.cm hc)⟩
end Go.Proofs.YtojinjdobjodaaaGreat
