/- Walks through a graph: the program's way by masks and the reference's way by lists answer alike. No program in sight. Conditions: none. -/
import Derived.Test.YtcdemjjgmnbkfaaPureD
namespace Go.Proofs.Ytcdemjjgmnbkfaa
open Go
set_option linter.unusedSimpArgs false
set_option linter.unusedVariables false
/-! The program's way. -/
def lkTo (g : List Int) (w o : Int) (k : Nat) : Int := (List.range k).foldl (fun x (i : Nat) => if hasB o (i : Int) = true then ior x (iandNot (g.getD i 0) w) else x) o
theorem lkTo_zero (g : List Int) (w o : Int) : lkTo g w o 0 = o := rfl
theorem lkTo_succ (g : List Int) (w o : Int) (k : Nat) : lkTo g w o (k + 1) = if hasB o (k : Int) = true then ior (lkTo g w o k) (iandNot (g.getD k 0) w) else lkTo g w o k := by
  simp only [lkTo, List.range_succ, List.foldl_append, List.foldl_cons, List.foldl_nil]
def lkIter (g : List Int) (w : Int) : Nat → Int → Int
  | 0, o => o
  | f + 1, o => if lkTo g w o g.length = o then o else lkIter g w f (lkTo g w o g.length)
def linkedI (m : Mod) (v w : Int) : Int := lkIter (graphI m) w 16 (ishl 1 v)
theorem lkIter_fix {g : List Int} {w o : Int} (h : lkTo g w o g.length = o) : ∀ f, lkIter g w f o = o
  | 0 => rfl
  | f + 1 => by simp [lkIter, h]
def LkOk (o : Int) (f : Nat) : Prop := 0 ≤ o ∧ o < 16 ∧ 16 ≤ o + f
/-- One round in natural numbers. -/
theorem lkTo_nat {n : Nat} {g : List Int} {p : Nat → Nat → Prop} (hn : n ≤ 4) (hg : MaskG n g p) {w o : Nat} (ho : o < 2 ^ n) : ∀ k, k ≤ n →
    ∃ x : Nat, lkTo g w o k = (x : Int) ∧ ∀ b, x.testBit b = true ↔ o.testBit b = true ∨ (b < n ∧ w.testBit b = false ∧ ∃ i, i < k ∧ o.testBit i = true ∧ p i b)
  | 0, _ => ⟨o, rfl, fun b => by simp⟩
  | k + 1, hk => by
    have h2n : 2 ^ n ≤ 2 ^ 4 := Nat.pow_le_pow_right (by decide) hn
    obtain ⟨x, h1, h2⟩ := lkTo_nat hn hg (w := w) ho k (by omega)
    obtain ⟨y, h3, h4⟩ := hg.2 k (by omega)
    have hy : y < 2 ^ n := lt_of_bits (fun b hb => ((h4 b).1 hb).1)
    have hx : x < 2 ^ n := lt_of_bits (fun b hb => by
      rcases (h2 b).1 hb with h | h
      · exact Nat.lt_of_not_le (fun hle => by have := Nat.testBit_lt_two_pow (Nat.lt_of_lt_of_le ho (Nat.pow_le_pow_right (by decide) hle)); rw [h] at this; cases this)
      · exact h.1)
    rw [lkTo_succ, h1, h3, hasB_nat (by omega) (by omega)]
    by_cases hb : o.testBit k = true
    · rw [if_pos hb]
      obtain ⟨c, h5, h6, h7⟩ := iandNot_nat (a := y) (b := w) (by omega)
      rw [h5, ior_nat (by omega) (by omega)]
      refine ⟨x ||| c, rfl, fun b => ?_⟩
      rw [Nat.testBit_or, Bool.or_eq_true, h2]
      have hc : c.testBit b = true ↔ b < n ∧ p k b ∧ w.testBit b = false := by
        by_cases h64 : b < 64
        · rw [h7 b h64, Bool.and_eq_true, h4]; simp [and_assoc]
        · have : c.testBit b = false := Nat.testBit_lt_two_pow (Nat.lt_of_lt_of_le (by omega : c < 2 ^ 4) (Nat.pow_le_pow_right (by decide) (by omega)))
          rw [this]; constructor
          · intro h; cases h
          · rintro ⟨h, _⟩; omega
      rw [hc]
      constructor
      · rintro ((h | ⟨h8, h9, i, h10, h11⟩) | ⟨h8, h9, h10⟩)
        · exact .inl h
        · exact .inr ⟨h8, h9, i, by omega, h11⟩
        · exact .inr ⟨h8, h10, k, by omega, hb, h9⟩
      · rintro (h | ⟨h8, h9, i, h10, h11, h12⟩)
        · exact .inl (.inl h)
        · by_cases e : i = k
          · subst e; exact .inr ⟨h8, h12, h9⟩
          · exact .inl (.inr ⟨h8, h9, i, by omega, h11, h12⟩)
    · rw [if_neg hb]
      refine ⟨x, rfl, fun b => ?_⟩
      rw [h2]
      constructor
      · rintro (h | ⟨h8, h9, i, h10, h11⟩)
        · exact .inl h
        · exact .inr ⟨h8, h9, i, by omega, h11⟩
      · rintro (h | ⟨h8, h9, i, h10, h11, h12⟩)
        · exact .inl h
        · refine .inr ⟨h8, h9, i, ?_, h11, h12⟩
          have : i ≠ k := fun e => hb (e ▸ h11)
          omega
theorem le_of_bits {x y : Nat} (h : ∀ b, x.testBit b = true → y.testBit b = true) : x ≤ y := by
  have : x ||| y = y := Nat.eq_of_testBit_eq (fun b => by
    rw [Nat.testBit_or]; cases hx : x.testBit b with
    | false => simp
    | true => simp [h b hx])
  rw [← this]; exact Nat.left_le_or
theorem lkTo_bound {n : Nat} {g : List Int} {p : Nat → Nat → Prop} (hn : n ≤ 4) (hg : MaskG n g p) {w o : Int} (hw : 0 ≤ w) (h0 : 0 ≤ o) (ho : o < 2 ^ n) :
    o ≤ lkTo g w o n ∧ lkTo g w o n < 2 ^ n := by
  obtain ⟨w, rfl⟩ := Int.eq_ofNat_of_zero_le hw
  obtain ⟨o, rfl⟩ := Int.eq_ofNat_of_zero_le h0
  have ho' : o < 2 ^ n := by exact_mod_cast ho
  obtain ⟨x, h1, h2⟩ := lkTo_nat hn hg (w := w) ho' n (Nat.le_refl _)
  rw [h1]
  constructor
  · exact_mod_cast le_of_bits (fun b hb => (h2 b).2 (.inl hb))
  · have : x < 2 ^ n := lt_of_bits (fun b hb => by
      rcases (h2 b).1 hb with h | h
      · exact Nat.lt_of_not_le (fun hle => by have := Nat.testBit_lt_two_pow (Nat.lt_of_lt_of_le ho' (Nat.pow_le_pow_right (by decide) hle)); rw [h] at this; cases this)
      · exact h.1)
    exact_mod_cast this
/-- A path from v through indexes outside w. -/
inductive Conn (n : Nat) (p : Nat → Nat → Prop) (w : Nat → Prop) (v : Nat) : Nat → Prop where
  | refl : Conn n p w v v
  | step {a b : Nat} : Conn n p w v a → p a b → b < n → ¬ w b → Conn n p w v b
/-- What the program's rounds end with. -/
theorem lkIter_conn {n : Nat} {g : List Int} {p : Nat → Nat → Prop} (hn : n ≤ 4) (hg : MaskG n g p) {w v : Nat} (hv : v < n) : ∀ (f : Nat) (o : Nat), o < 2 ^ n → 16 ≤ o + f → o.testBit v = true →
    (∀ b, o.testBit b = true → Conn n p (fun i => w.testBit i = true) v b) →
    ∃ x : Nat, lkIter g (w : Int) f (o : Int) = (x : Int) ∧ x < 2 ^ n ∧ ∀ b, x.testBit b = true ↔ Conn n p (fun i => w.testBit i = true) v b
  | 0, o, ho, hf, _, _ => by
    have h2n : 2 ^ n ≤ 2 ^ 4 := Nat.pow_le_pow_right (by decide) hn
    omega
  | f + 1, o, ho, hf, h1, h2 => by
    obtain ⟨x, hx, hb⟩ := lkTo_nat hn hg (w := w) ho n (Nat.le_refl _)
    have hxn : x < 2 ^ n := by
      have := (lkTo_bound hn hg (w := w) (o := o) (Int.natCast_nonneg _) (Int.natCast_nonneg _) (by exact_mod_cast ho)).2
      rw [hx] at this; exact_mod_cast this
    have hle : o ≤ x := le_of_bits (fun b h => (hb b).2 (.inl h))
    simp only [lkIter, hg.1, hx]
    by_cases e : x = o
    · subst e
      simp only [if_true]
      refine ⟨x, rfl, ho, fun b => ⟨h2 b, fun h => ?_⟩⟩
      induction h with
      | refl => exact h1
      | @step a c hac hp hc hw ih =>
        refine (hb c).2 (.inr ⟨hc, by simpa using hw, a, ?_, ih, hp⟩)
        exact Nat.lt_of_not_le (fun hle => by have := Nat.testBit_lt_two_pow (Nat.lt_of_lt_of_le ho (Nat.pow_le_pow_right (by decide) hle)); rw [ih] at this; cases this)
    · have e' : ¬ ((x : Int) = (o : Int)) := by omega
      rw [if_neg e']
      refine lkIter_conn hn hg hv f x hxn (by omega) ((hb v).2 (.inl h1)) (fun b h => ?_)
      rcases (hb b).1 h with h | ⟨h3, h4, i, h5, h6, h7⟩
      · exact h2 b h
      · exact .step (h2 i h6) h7 h3 (by simpa using h4)
theorem linkedI_conn {m : Mod} (hn : m.doms.length ≤ 4) (hi : InN m.cons m.doms.length) {w v : Nat} (hv : v < m.doms.length) :
    ∃ x : Nat, linkedI m v w = (x : Int) ∧ x < 2 ^ m.doms.length ∧ ∀ b, x.testBit b = true ↔ Conn m.doms.length (fun x y => adjB m.cons x y = true) (fun i => w.testBit i = true) v b := by
  have hg := graphI_mask (by omega) hi
  unfold linkedI
  rw [ishl_one (by omega)]
  refine lkIter_conn hn hg hv 16 (2 ^ v) (Nat.pow_lt_pow_right (by decide) hv) (Nat.le_add_left _ _) (by simp) (fun b hb => ?_)
  have : v = b := by simpa [Nat.testBit_two_pow] using hb
  subst this; exact .refl
end Go.Proofs.Ytcdemjjgmnbkfaa
