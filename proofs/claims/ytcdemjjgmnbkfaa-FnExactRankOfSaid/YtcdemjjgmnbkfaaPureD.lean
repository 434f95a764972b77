/- Graphs as masks, and connectedness: the program's way and the reference's way. No program in sight. Conditions: none. -/
import Derived.Test.YtcdemjjgmnbkfaaPureC
import Derived.Laws.BitsLemmas
namespace Go.Proofs.Ytcdemjjgmnbkfaa
open Go
set_option linter.unusedSimpArgs false
set_option linter.unusedVariables false
theorem wraps_i64 (n : Int) (h₀ : 0 ≤ n) (h₁ : n < 2 ^ 63) : IntKind.i64.wrap n = n := by rw [IntKind.wrap_i64]; omega
theorem ior_nat {a b : Nat} (ha : a < 2 ^ 63) (hb : b < 2 ^ 63) : ior (a : Int) (b : Int) = ((a ||| b : Nat) : Int) := (bits_nat .i64 63 (by decide) wraps_i64 a b ha hb).2
theorem iand_nat {a b : Nat} (ha : a < 2 ^ 63) (hb : b < 2 ^ 63) : iand (a : Int) (b : Int) = ((a &&& b : Nat) : Int) := (bits_nat .i64 63 (by decide) wraps_i64 a b ha hb).1
theorem iandNot_nat {a b : Nat} (ha : a < 2 ^ 63) : ∃ c : Nat, iandNot (a : Int) (b : Int) = (c : Int) ∧ c ≤ a ∧ ∀ i, i < 64 → c.testBit i = (a.testBit i && !b.testBit i) := by
  have h1 : (BitVec.ofInt 64 (a : Int) &&& ~~~BitVec.ofInt 64 (b : Int)).toNat ≤ a := by
    rw [BitVec.toNat_and]
    refine Nat.le_trans Nat.and_le_left ?_
    simp only [BitVec.ofInt_natCast, BitVec.toNat_ofNat]; exact Nat.mod_le _ _
  refine ⟨(BitVec.ofInt 64 (a : Int) &&& ~~~BitVec.ofInt 64 (b : Int)).toNat, ?_, h1, fun i hi => ?_⟩
  · simp only [iandNot, bits, IntKind.bits]
    exact wraps_i64 _ (Int.natCast_nonneg _) (by have := Nat.lt_of_le_of_lt h1 ha; exact_mod_cast this)
  · simp only [BitVec.ofInt_natCast, BitVec.testBit_toNat, BitVec.getLsbD_and, BitVec.getLsbD_not, BitVec.getLsbD_ofNat, hi, decide_true, Bool.true_and]
theorem ishl_one {b : Nat} (hb : b < 63) : ishl 1 (b : Int) = ((2 ^ b : Nat) : Int) := by
  simp only [ishl, Int.toNat_natCast, Int.one_mul, Nat.min_eq_left (show b ≤ 64 by omega)]
  rw [wraps_i64 _ (by exact Int.pow_nonneg (by decide)) (by exact_mod_cast Nat.pow_lt_pow_right (by decide) hb)]
  simp
theorem ishr_nat {a i : Nat} (hi : i ≤ 64) : ishr (a : Int) (i : Int) = ((a >>> i : Nat) : Int) := by
  simp only [ishr, Int.toNat_natCast, Nat.min_eq_left hi, Nat.shiftRight_eq_div_pow]
  rw [Int.fdiv_eq_ediv_of_nonneg _ (Int.pow_nonneg (by decide))]
  simp
def hasB (m i : Int) : Bool := decide (iand (ishr m i) 1 = 1)
theorem hasB_nat {m i : Nat} (hm : m < 2 ^ 63) (hi : i ≤ 64) : hasB (m : Int) (i : Int) = m.testBit i := by
  have h1 : m >>> i < 2 ^ 63 := Nat.lt_of_le_of_lt (by rw [Nat.shiftRight_eq_div_pow]; exact Nat.div_le_self _ _) hm
  simp only [hasB, ishr_nat hi]
  rw [show ((1 : Int)) = ((1 : Nat) : Int) from rfl, iand_nat h1 (by decide), Nat.testBit, Nat.and_comm]
  simp only [Nat.one_and_eq_mod_two]
  rcases Nat.mod_two_eq_zero_or_one (m >>> i) with h | h <;> simp [h]
/-! The graph. -/
theorem fold_step {A B : Type} {f : B → A → B} {xs : List A} {k : Nat} (d : A) (h : k < xs.length) {g g0 : B} (e : g = (xs.take k).foldl f g0) : f g (xs.getD k d) = (xs.take (k + 1)).foldl f g0 := by
  rw [take_succ_getD d h, List.foldl_append, ← e]; rfl
theorem fold_end {A B : Type} {f : B → A → B} {xs : List A} {k : Nat} (h : ¬ (k : Int) < (xs.length : Int)) {g g0 : B} (e : g = (xs.take k).foldl f g0) : g = xs.foldl f g0 := by
  rw [List.take_of_length_le (by omega)] at e; exact e
def gB (a : Int) (g : List Int) (b : Int) : List Int := if a ≠ b then g.set a.toNat (ior (g.getD a.toNat 0) (ishl 1 b)) else g
def gA (vs : List Int) (g : List Int) (a : Int) : List Int := vs.foldl (gB a) g
def gC (g : List Int) (c : Con) : List Int := c.vars.foldl (gA c.vars) g
def graphI (m : Mod) : List Int := m.cons.foldl gC (List.replicate m.doms.length 0)
/-- The variables of all constraints are indexes below n. -/
def InN (cons : List Con) (n : Nat) : Prop := ∀ c ∈ cons, ∀ a ∈ c.vars, (0 : Int) ≤ a ∧ a < n
/-- A list of masks that hold exactly the pairs of p. -/
def MaskG (n : Nat) (g : List Int) (p : Nat → Nat → Prop) : Prop := g.length = n ∧ ∀ a, a < n → ∃ x : Nat, g.getD a 0 = (x : Int) ∧ ∀ b, x.testBit b = true ↔ b < n ∧ p a b
theorem MaskG.congr {n : Nat} {g : List Int} {p q : Nat → Nat → Prop} (h : MaskG n g p) (e : ∀ a b, p a b ↔ q a b) : MaskG n g q :=
  ⟨h.1, fun a ha => by obtain ⟨x, h1, h2⟩ := h.2 a ha; exact ⟨x, h1, fun b => by rw [h2, e]⟩⟩
theorem lt_of_bits {x n : Nat} (h : ∀ b, x.testBit b = true → b < n) : x < 2 ^ n := Nat.lt_pow_two_of_testBit _ (fun i hi => by
  cases hx : x.testBit i with
  | false => rfl
  | true => have := h i hx; omega)
theorem MaskG.gB {n : Nat} {g : List Int} {p : Nat → Nat → Prop} (hn : n ≤ 62) (h : MaskG n g p) {a b : Int} (ha : 0 ≤ a ∧ a < n) (hb : 0 ≤ b ∧ b < n) :
    MaskG n (gB a g b) (fun x y => p x y ∨ ((x : Int) = a ∧ (y : Int) = b ∧ a ≠ b)) := by
  unfold Go.Proofs.Ytcdemjjgmnbkfaa.gB
  by_cases e : a = b
  · simp only [e, ne_eq, not_true_eq_false, if_false]
    exact h.congr (fun x y => by simp)
  · simp only [ne_eq, e, not_false_eq_true, if_true]
    obtain ⟨a, rfl⟩ := Int.eq_ofNat_of_zero_le ha.1
    obtain ⟨b, rfl⟩ := Int.eq_ofNat_of_zero_le hb.1
    have ha' : a < n := by omega
    have hb' : b < n := by omega
    obtain ⟨x, h1, h2⟩ := h.2 a ha'
    have hx : x < 2 ^ 63 := Nat.lt_of_lt_of_le (lt_of_bits (n := n) (fun b hb => ((h2 b).1 hb).1)) (Nat.pow_le_pow_right (by decide) (by omega))
    have hp : 2 ^ b < 2 ^ 63 := Nat.pow_lt_pow_right (by decide) (by omega)
    simp only [Int.toNat_natCast]
    rw [h1, ishl_one (by omega), ior_nat hx hp]
    refine ⟨by simpa using h.1, fun a' ha2 => ?_⟩
    by_cases ea : a' = a
    · subst ea
      refine ⟨x ||| 2 ^ b, by simp [List.getD_eq_getElem?_getD, List.getElem?_set, h.1, ha'], fun y => ?_⟩
      rw [Nat.testBit_or, Bool.or_eq_true, h2, Nat.testBit_two_pow]
      simp only [decide_eq_true_eq]
      constructor
      · rintro (h | h)
        · exact ⟨h.1, .inl h.2⟩
        · subst h; exact ⟨hb', .inr (by simp [e])⟩
      · rintro ⟨h, h3 | h3⟩
        · exact .inl ⟨h, h3⟩
        · right; omega
    · obtain ⟨x', h3, h4⟩ := h.2 a' ha2
      refine ⟨x', by rw [← h3]; simp [List.getD_eq_getElem?_getD, List.getElem?_set, Ne.symm ea], fun y => ?_⟩
      rw [h4]
      constructor
      · rintro ⟨h5, h6⟩; exact ⟨h5, .inl h6⟩
      · rintro ⟨h5, h6 | h6⟩
        · exact ⟨h5, h6⟩
        · omega
theorem MaskG.gA {n : Nat} (hn : n ≤ 62) {a : Int} (ha : 0 ≤ a ∧ a < n) : ∀ {vs : List Int} {g : List Int} {p : Nat → Nat → Prop}, MaskG n g p → (∀ b ∈ vs, 0 ≤ b ∧ b < n) →
    MaskG n (gA vs g a) (fun x y => p x y ∨ ((x : Int) = a ∧ (y : Int) ∈ vs ∧ x ≠ y))
  | [], g, p, h, _ => h.congr (fun x y => by simp)
  | v :: vs, g, p, h, hb => by
    have h1 := (h.gB hn ha (hb v (.head _)))
    have h2 := MaskG.gA hn ha (vs := vs) h1 (fun b hm => hb b (.tail _ hm))
    refine h2.congr (fun x y => ?_)
    simp only [List.mem_cons]
    constructor
    · rintro ((h | ⟨h3, h4, h5⟩) | ⟨h3, h4, h5⟩)
      · exact .inl h
      · exact .inr ⟨h3, .inl h4, by omega⟩
      · exact .inr ⟨h3, .inr h4, h5⟩
    · rintro (h | ⟨h3, h4 | h4, h5⟩)
      · exact .inl (.inl h)
      · exact .inl (.inr ⟨h3, h4, by omega⟩)
      · exact .inr ⟨h3, h4, h5⟩
theorem MaskG.gAs {n : Nat} (hn : n ≤ 62) {vs : List Int} (hv : ∀ b ∈ vs, (0 : Int) ≤ b ∧ b < n) : ∀ {us : List Int} {g : List Int} {p : Nat → Nat → Prop}, MaskG n g p → (∀ b ∈ us, (0 : Int) ≤ b ∧ b < n) →
    MaskG n (us.foldl (Go.Proofs.Ytcdemjjgmnbkfaa.gA vs) g) (fun x y => p x y ∨ ((x : Int) ∈ us ∧ (y : Int) ∈ vs ∧ x ≠ y))
  | [], g, p, h, _ => h.congr (fun x y => by simp)
  | v :: us, g, p, h, hb => by
    have h1 := MaskG.gA hn (hb v (.head _)) h hv
    have h2 := MaskG.gAs hn hv (us := us) h1 (fun b hm => hb b (.tail _ hm))
    refine h2.congr (fun x y => ?_)
    simp only [List.mem_cons]
    constructor
    · rintro ((h | ⟨h3, h4, h5⟩) | ⟨h3, h4, h5⟩)
      · exact .inl h
      · exact .inr ⟨.inl h3, h4, h5⟩
      · exact .inr ⟨.inr h3, h4, h5⟩
    · rintro (h | ⟨h3 | h3, h4, h5⟩)
      · exact .inl (.inl h)
      · exact .inl (.inr ⟨h3, h4, h5⟩)
      · exact .inr ⟨h3, h4, h5⟩
theorem MaskG.gCs {n : Nat} (hn : n ≤ 62) : ∀ {cs : List Con} {g : List Int} {p : Nat → Nat → Prop}, MaskG n g p → InN cs n →
    MaskG n (cs.foldl gC g) (fun x y => p x y ∨ ∃ c ∈ cs, (x : Int) ∈ c.vars ∧ (y : Int) ∈ c.vars ∧ x ≠ y)
  | [], g, p, h, _ => h.congr (fun x y => by simp)
  | c :: cs, g, p, h, hb => by
    have h1 := MaskG.gAs hn (hb c (.head _)) h (hb c (.head _))
    have h2 := MaskG.gCs hn (cs := cs) h1 (fun c hm => hb c (.tail _ hm))
    refine h2.congr (fun x y => ?_)
    constructor
    · rintro ((h | h) | ⟨c', h3, h4⟩)
      · exact .inl h
      · exact .inr ⟨c, .head _, h⟩
      · exact .inr ⟨c', .tail _ h3, h4⟩
    · rintro (h | ⟨c', h3, h4⟩)
      · exact .inl (.inl h)
      · cases h3 with
        | head => exact .inl (.inr h4)
        | tail _ h3 => exact .inr ⟨c', h3, h4⟩
theorem adjB_iff {cons : List Con} {x y : Nat} : adjB cons x y = true ↔ ∃ c ∈ cons, (x : Int) ∈ c.vars ∧ (y : Int) ∈ c.vars ∧ x ≠ y := by
  simp only [adjB, List.any_eq_true, joins, Bool.and_eq_true, decide_eq_true_eq, List.contains_iff_mem]
  constructor
  · rintro ⟨c, h, ⟨h1, h2⟩, h3⟩; exact ⟨c, h, h2, h3, by omega⟩
  · rintro ⟨c, h, h2, h3, h1⟩; exact ⟨c, h, ⟨by omega, h2⟩, h3⟩
theorem graphI_mask {m : Mod} (hn : m.doms.length ≤ 62) (hv : InN m.cons m.doms.length) : MaskG m.doms.length (graphI m) (fun x y => adjB m.cons x y = true) := by
  have h0 : MaskG m.doms.length (List.replicate m.doms.length 0) (fun _ _ => False) := ⟨by simp, fun a ha => ⟨0, by simp [List.getD_eq_getElem?_getD, ha], fun b => by simp⟩⟩
  exact (MaskG.gCs hn h0 hv).congr (fun x y => by rw [adjB_iff]; simp)
theorem gB_len (a : Int) (g : List Int) (b : Int) : (gB a g b).length = g.length := by unfold gB; split <;> simp
theorem gA_len (vs : List Int) (g : List Int) (a : Int) : (gA vs g a).length = g.length := by
  unfold gA; induction vs generalizing g with
  | nil => rfl
  | cons v vs ih => rw [List.foldl_cons, ih, gB_len]
theorem gAs_len (vs : List Int) : ∀ (us : List Int) (g : List Int), (us.foldl (gA vs) g).length = g.length
  | [], _ => rfl
  | v :: us, g => by rw [List.foldl_cons, gAs_len vs us, gA_len]
theorem gC_len (g : List Int) (c : Con) : (gC g c).length = g.length := gAs_len _ _ _
end Go.Proofs.Ytcdemjjgmnbkfaa
