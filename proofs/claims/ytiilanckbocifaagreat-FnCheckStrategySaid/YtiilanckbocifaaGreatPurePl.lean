/- Plain law: the plays of a strategy. No program in sight. Conditions: none. -/
import Derived.Test.YtiilanckbocifaaGreatPureC
namespace Go.Proofs.YtiilanckbocifaaGreat
open Go
set_option linter.unusedSimpArgs false
set_option linter.unusedVariables false
/-- The plays after x that the reference lists: the smallest winning value at a variable with "there is". -/
def playS (m : Mod) (fa : List Bool) : Nat → List Int → List (List Int)
  | 0, x => [x]
  | k + 1, x => if fa.getD x.length false = true then (valsI (m.doms.getD x.length 0)).flatMap (fun v => playS m fa k (x ++ [v]))
      else match (valsI (m.doms.getD x.length 0)).find? (fun v => winB m fa k (x ++ [v])) with
        | some v => playS m fa k (x ++ [v])
        | none => []
theorem flat_le {A B : Type} {f : A → List B} {n : Nat} : ∀ xs : List A, (∀ x ∈ xs, (f x).length ≤ n) → (xs.flatMap f).length ≤ n * xs.length
  | [], _ => by simp
  | x :: xs, h => by
    have h1 := h x (.head _)
    have h2 := flat_le xs (fun y hy => h y (.tail _ hy))
    rw [List.flatMap_cons, List.length_append, List.length_cons, Nat.mul_succ]
    omega
theorem valsI_six (d : Int) : (valsI d).length ≤ 6 := by
  have := popI_le d
  unfold popI at this; omega
theorem playS_len (m : Mod) (fa : List Bool) : ∀ (k : Nat) (x : List Int), (playS m fa k x).length ≤ 6 ^ k
  | 0, x => by simp [playS]
  | k + 1, x => by
    have h := playS_len m fa k
    rw [playS]
    split
    · have h1 := flat_le (n := 6 ^ k) (f := fun v => playS m fa k (x ++ [v])) (valsI (m.doms.getD x.length 0)) (fun v _ => h _)
      have h2 := Nat.mul_le_mul_left (6 ^ k) (valsI_six (m.doms.getD x.length 0))
      rw [Nat.pow_succ]; omega
    · split
      · have := h (x ++ [‹Int›]); rw [Nat.pow_succ]; omega
      · simp
theorem drop_c {A : Type} {xs : List A} {i : Nat} (d : A) (h : i < xs.length) : xs.drop i = xs.getD i d :: xs.drop (i + 1) := by
  rw [List.drop_eq_getElem_cons h]; simp [List.getD, h]
structure PlI (m : Mod) (fa : List Bool) (j : Nat) (x : List Int) (q : Nat) (out : List (List Int)) : Prop where
  a : fa.getD x.length false = true → out = ((valsI (m.doms.getD x.length 0)).take q).flatMap (fun v => playS m fa j (x ++ [v]))
  e : fa.getD x.length false = false → out = [] ∧ ((valsI (m.doms.getD x.length 0)).take q).all (fun v => !(winB m fa j (x ++ [v]))) = true
section pl
variable {m : Mod} {fa : List Bool} {j : Nat} {x : List Int} {q : Nat} {out : List (List Int)}
theorem pl_0 : PlI m fa j x 0 [] := ⟨fun _ => by simp, fun _ => ⟨rfl, by simp⟩⟩
theorem pl_b (h : PlI m fa j x q out) (hj : j ≤ 4) : out.length ≤ 7776 := by
  have hp : 6 ^ j ≤ 1296 := by
    have : 6 ^ j ≤ 6 ^ 4 := Nat.pow_le_pow_right (by decide) hj
    simpa using this
  cases e : fa.getD x.length false with
  | true =>
    rw [h.a e]
    have h1 := flat_le (n := 6 ^ j) (f := fun v => playS m fa j (x ++ [v])) ((valsI (m.doms.getD x.length 0)).take q) (fun v _ => playS_len m fa j _)
    have h2 := valsI_six (m.doms.getD x.length 0)
    have h3 : ((valsI (m.doms.getD x.length 0)).take q).length ≤ 6 := by rw [List.length_take]; omega
    have h4 := Nat.mul_le_mul hp h3
    omega
  | false => rw [(h.e e).1]; simp
theorem pl_T (h : PlI m fa j x q out) (hq : q < (valsI (m.doms.getD x.length 0)).length) (c : fa.getD x.length false = true) : PlI m fa j x (q + 1) (out ++ playS m fa j (x ++ [(valsI (m.doms.getD x.length 0)).getD q 0])) := by
  refine ⟨fun _ => ?_, fun e => by rw [c] at e; cases e⟩
  rw [take_succ_getD 0 hq, List.flatMap_append, h.a c]
  simp
theorem pl_F (h : PlI m fa j x q out) (hq : q < (valsI (m.doms.getD x.length 0)).length) (c : (fa.getD x.length false || winB m fa j (x ++ [(valsI (m.doms.getD x.length 0)).getD q 0])) = false) : PlI m fa j x (q + 1) out := by
  rw [Bool.or_eq_false_iff] at c
  refine ⟨fun e => by (rw [c.1] at e; cases e), fun e => ⟨(h.e e).1, ?_⟩⟩
  rw [take_succ_getD 0 hq, List.all_append, (h.e e).2]
  simp only [List.all_cons, List.all_nil, Bool.and_true, Bool.true_and, c.2, Bool.not_false]
theorem pl_hit (h : PlI m fa j x q out) (hq : q < (valsI (m.doms.getD x.length 0)).length) (c : (fa.getD x.length false || winB m fa j (x ++ [(valsI (m.doms.getD x.length 0)).getD q 0])) = true) (e : fa.getD x.length false = false) : out ++ playS m fa j (x ++ [(valsI (m.doms.getD x.length 0)).getD q 0]) = playS m fa (j + 1) x := by
  rw [e, Bool.false_or] at c
  rw [(h.e e).1, List.nil_append, playS, if_neg (by rw [e]; simp)]
  have h1 := (h.e e).2
  have hs : (valsI (m.doms.getD x.length 0)).find? (fun v => winB m fa j (x ++ [v])) = some ((valsI (m.doms.getD x.length 0)).getD q 0) := by
    have e2 := drop_c (0 : Int) hq
    have e1 : valsI (m.doms.getD x.length 0) = (valsI (m.doms.getD x.length 0)).take q ++ (valsI (m.doms.getD x.length 0)).getD q 0 :: (valsI (m.doms.getD x.length 0)).drop (q + 1) := by
      rw [← e2, List.take_append_drop]
    generalize (valsI (m.doms.getD x.length 0)).getD q 0 = v at c e1 ⊢
    rw [e1, List.find?_append, List.find?_eq_none.2 (fun y hy => by have := List.all_eq_true.1 h1 y hy; simpa using this), Option.none_or, List.find?_cons, c]
  rw [hs]
theorem pl_end (h : PlI m fa j x q out) (hq : q = (valsI (m.doms.getD x.length 0)).length) : out = playS m fa (j + 1) x := by
  rw [playS]
  cases e : fa.getD x.length false with
  | true => rw [if_pos rfl, h.a e, hq, List.take_length]
  | false =>
    rw [if_neg (by simp), (h.e e).1]
    have h1 := (h.e e).2
    rw [hq, List.take_length] at h1
    rw [List.find?_eq_none.2 (fun y hy => by have := List.all_eq_true.1 h1 y hy; simpa using this)]
theorem pow6 {j : Nat} (h : j ≤ 4) : 6 ^ j ≤ 1296 := by
  have : 6 ^ j ≤ 6 ^ 4 := Nat.pow_le_pow_right (by decide) h
  simpa using this
end pl
def strB (m : Mod) (fa : List Bool) : Bool := gOkB m fa && winB m fa m.doms.length []
def strL (m : Mod) (fa : List Bool) : List (List Int) := if strB m fa = true then playS m fa m.doms.length [] else []
theorem gok_of {m : Mod} {fa : List Bool} (h : gOkB m fa = true) : MOk m ∧ fa.length = m.doms.length := by
  unfold gOkB at h; rw [Bool.and_eq_true] at h; exact fok h.1
theorem strS_c (m : Mod) (fa : List Bool) : (!(qtrueB m fa) || m.doms.contains 0) = !(strB m fa) := by
  unfold strB qtrueB gOkB
  generalize fOkB m fa = a
  generalize winB m fa m.doms.length [] = b
  generalize m.doms.contains 0 = c
  revert a b c; decide
theorem str_yes {m : Mod} {fa : List Bool} {b : Bool} (e : b = !(strB m fa)) (h : b = false) : strB m fa = true := by
  rw [h] at e; cases h9 : strB m fa with
  | true => rfl
  | false => rw [h9] at e; cases e
theorem str_no {m : Mod} {fa : List Bool} {b : Bool} (e : b = !(strB m fa)) (h : b = true) : false = strB m fa := by
  rw [h] at e; cases h9 : strB m fa with
  | false => rfl
  | true => rw [h9] at e; cases e
theorem strL_no {m : Mod} {fa : List Bool} (h : false = strB m fa) : strL m fa = [] := by unfold strL; rw [← h]; rfl
theorem strL_at {m : Mod} {fa : List Bool} (h : strB m fa = true) : strL m fa = playS m fa m.doms.length [] := by unfold strL; rw [if_pos h]
theorem str_ok {m : Mod} {fa : List Bool} (h : strB m fa = true) : MOk m ∧ fa.length = m.doms.length ∧ winB m fa m.doms.length [] = true := by
  unfold strB at h; rw [Bool.and_eq_true] at h
  exact ⟨(gok_of h.1).1, (gok_of h.1).2, h.2⟩
theorem playS_row (m : Mod) (fa : List Bool) : ∀ (k : Nat) (x : List Int), ∀ r ∈ playS m fa k x, r.length = x.length + k
  | 0, x, r, hr => by rw [playS, List.mem_singleton] at hr; rw [hr]; rfl
  | k + 1, x, r, hr => by
    have h := playS_row m fa k
    rw [playS] at hr
    split at hr
    · rw [List.mem_flatMap] at hr
      obtain ⟨v, _, hv⟩ := hr
      have := h _ r hv
      rw [this]; simp; omega
    · split at hr
      · have := h _ r hr
        rw [this]; simp; omega
      · cases hr
end Go.Proofs.YtiilanckbocifaaGreat
