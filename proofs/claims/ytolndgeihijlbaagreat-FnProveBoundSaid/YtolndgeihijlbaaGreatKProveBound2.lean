/- Parts of the proof: a logic of partial frames, plain functions, walks of the program's functions. Conditions: those that each statement names. -/
import Derived.Test.YtolndgeihijlbaaGreatKProveBound1
import Derived.Laws.BitsLemmas
import Derived.Laws.Bits64
import Derived.WalkSpells
import Derived.MapKept
import Derived.Laws.StructEq
namespace Go.Proofs.YtolndgeihijlbaaGreat
open Go
set_option linter.unusedSimpArgs false
set_option linter.unusedVariables false
section
theorem litInts {H : Hp} {v : Value} {xs : List Int} (h : Sl H 1 (fun cs u => cs = [u]) v (xs.map (Value.int .i64))) : Ints H v xs := by
  obtain ⟨a, c, hv, h1, h2, h3⟩ := h
  simp only [List.length_map] at hv h1 h2 h3
  refine ⟨a, c, hv, h1, h2, fun i hi => ?_⟩
  obtain ⟨b, o, e, vs, hl, hr, hat⟩ := h3 i hi
  exact ⟨b, o, e, vs, hl, (by simpa using hr : vs = [_]), hat⟩
/-! Lists. -/
theorem getD_mem {A : Type} {xs : List A} {i : Nat} {d : A} (h : i < xs.length) : xs.getD i d ∈ xs := by
  rw [List.getD_eq_getElem?_getD, List.getElem?_eq_getElem h]; simp
theorem take_succ_getD {A : Type} {xs : List A} {k : Nat} (d : A) (h : k < xs.length) : xs.take (k + 1) = xs.take k ++ [xs.getD k d] := by
  rw [List.take_succ_eq_append_getElem h, List.getD_eq_getElem?_getD, List.getElem?_eq_getElem h]; simp
theorem all_take_step {A : Type} {xs : List A} {k : Nat} {p : A → Bool} {d : A} (h : k < xs.length) (hp : (xs.take k).all p = true) (hk : p (xs.getD k d) = true) : (xs.take (k + 1)).all p = true := by
  rw [take_succ_getD d h, List.all_append, hp]; simp at hk ⊢; exact hk
theorem all_false {A : Type} {xs : List A} {k : Nat} {p : A → Bool} {d : A} (h : k < xs.length) (hk : p (xs.getD k d) = false) : xs.all p = false := by
  rw [List.all_eq_false]; exact ⟨xs.getD k d, getD_mem h, by rw [hk]; simp⟩
theorem any_take_step {A : Type} {xs : List A} {k : Nat} {p : A → Bool} {d : A} (h : k < xs.length) (hp : (xs.take k).any p = false) (hk : p (xs.getD k d) = false) : (xs.take (k + 1)).any p = false := by
  rw [take_succ_getD d h, List.any_append, hp]; simp at hk ⊢; exact hk
theorem any_true {A : Type} {xs : List A} {k : Nat} {p : A → Bool} {d : A} (h : k < xs.length) (hk : p (xs.getD k d) = true) : xs.any p = true := by
  rw [List.any_eq_true]; exact ⟨_, getD_mem h, hk⟩

def withinB (n lo hi : Int) : Bool := decide (lo ≤ n) && decide (n ≤ hi)
theorem withinB_iff {n lo hi : Int} : withinB n lo hi = true ↔ lo ≤ n ∧ n ≤ hi := by simp [withinB]
/-- The first index whose element answers yes, or -1. -/
def indexBy {A : Type} (p : A → Bool) (xs : List A) : Int := match xs.findIdx? p with | some i => (i : Int) | none => -1
theorem indexBy_hit {A : Type} {p : A → Bool} {xs : List A} {k : Nat} {d : A} (hk : k < xs.length) (hp : (xs.take k).any p = false) (h : p (xs.getD k d) = true) : (k : Int) = indexBy p xs := by
  have : xs.findIdx? p = some k := by
    rw [List.findIdx?_eq_some_iff_getElem]
    refine ⟨hk, ?_, fun j hj => ?_⟩
    · rw [List.getD_eq_getElem?_getD, List.getElem?_eq_getElem hk] at h; simpa using h
    · rw [List.any_eq_false] at hp
      have := hp (xs[j]) (by rw [List.mem_take_iff_getElem]; exact ⟨j, by omega, rfl⟩)
      simpa using this
  simp [indexBy, this]
theorem indexBy_none {A : Type} {p : A → Bool} {xs : List A} {k : Nat} (hk : ¬ (k : Int) < (xs.length : Int)) (hp : (xs.take k).any p = false) : (-1 : Int) = indexBy p xs := by
  have : xs.findIdx? p = none := by
    rw [List.findIdx?_eq_none_iff]
    intro x hx
    rw [List.take_of_length_le (by omega), List.any_eq_false] at hp
    simpa using hp x hx
  simp [indexBy, this]
theorem indexBy_any {A : Type} (p : A → Bool) (xs : List A) : decide ((0 : Int) ≤ indexBy p xs) = xs.any p := by
  unfold indexBy
  cases h : xs.findIdx? p with
  | none =>
    have : xs.any p = false := by rw [List.any_eq_false]; intro x hx; have := (List.findIdx?_eq_none_iff.1 h) x hx; simp [this]
    simp [this]
  | some i =>
    have := (List.findIdx?_eq_some_iff_getElem.1 h)
    obtain ⟨h1, h2, _⟩ := this
    have : xs.any p = true := by rw [List.any_eq_true]; exact ⟨xs[i], List.getElem_mem h1, h2⟩
    simp [this]
def allInB (xs : List Int) (lo hi : Int) : Bool := xs.all fun n => withinB n lo hi
def distinctB (xs : List Int) : Bool := decide xs.Nodup
theorem nodup_take_succ {xs : List Int} {k : Nat} (h : k < xs.length) : (xs.take (k + 1)).Nodup ↔ (xs.take k).Nodup ∧ xs.getD k 0 ∉ xs.take k := by
  rw [take_succ_getD 0 h, List.nodup_append]
  constructor
  · rintro ⟨h1, _, h2⟩; exact ⟨h1, fun h3 => h2 _ h3 _ (.head _) rfl⟩
  · rintro ⟨h1, h2⟩; exact ⟨h1, by simp, fun a ha b hb e => h2 (by have hb' := List.mem_singleton.1 hb; subst hb'; exact e ▸ ha)⟩
theorem nodup_not {xs : List Int} {k : Nat} (h : k < xs.length) (hm : xs.getD k 0 ∈ xs.take k) : ¬ xs.Nodup := fun hn => by
  have := (nodup_take_succ h).1 (hn.sublist (List.take_sublist _ _))
  exact this.2 hm

/-! Models. -/
def validDomB (d : Int) : Bool := withinB d 0 63
def rowsInB (rows : List (List Int)) (n lo hi : Int) : Bool := withinB rows.length 1 8 && rows.all fun r => decide ((r.length : Int) = n) && allInB r lo hi
def fitsB (c : Con) : Bool :=
  if c.kind = 1 then (decide ((c.args.length : Int) = c.vars.length) && allInB c.args (-9) 9) && withinB c.bound (-999) 999 && decide ((c.rows.length : Int) = 0)
  else if c.kind = 2 then decide ((c.vars.length : Int) = 2) && (decide ((c.args.length : Int) = 1) && allInB c.args (-9) 9) && decide (c.bound = 0) && decide ((c.rows.length : Int) = 0)
  else if c.kind = 3 ∨ c.kind = 9 then decide ((c.args.length : Int) = 0) && decide (c.bound = 0) && decide ((c.rows.length : Int) = 0)
  else if c.kind = 4 then decide ((c.vars.length : Int) = 2) && withinB c.args.length 1 6 && allInB c.args 0 5 && decide (c.bound = 0) && decide ((c.rows.length : Int) = 0)
  else if c.kind = 5 then decide ((c.args.length : Int) = 0) && decide (c.bound = 0) && rowsInB c.rows c.vars.length 0 5
  else if c.kind = 6 then (decide ((c.args.length : Int) = 1) && allInB c.args 0 5) && withinB c.bound 0 4 && decide ((c.rows.length : Int) = 0)
  else if c.kind = 7 then (decide ((c.args.length : Int) = 2 * c.vars.length) && allInB c.args 0 9) && withinB c.bound 0 9 && decide ((c.rows.length : Int) = 0)
  else if c.kind = 8 then rowsInB c.rows 6 (-1) (c.rows.length - 1) && distinctB c.args && allInB c.args 0 (c.rows.length - 1) && decide (c.bound = 0)
  else false
def validConB (c : Con) (n : Int) : Bool := withinB n 1 4 && withinB c.vars.length 1 n && allInB c.vars 0 (n - 1) && distinctB c.vars && fitsB c
def domainsOkB (ds : List Int) : Bool := withinB ds.length 1 4 && allInB ds 0 63
def validModB (m : Mod) : Bool := domainsOkB m.doms && decide ((m.cons.length : Int) ≤ 6) && m.cons.all fun c => validConB c m.doms.length
end
section
theorem not_mem_k2 {xs : List Int} {k j : Nat} (h : k ≤ j) (ha : (xs.take j).all (fun y => decide (xs.getD k 0 ≠ y)) = true) : xs.getD k 0 ∉ xs.take k := fun hm => by
  rw [List.all_eq_true] at ha
  have := ha _ ((List.take_subset_take_left xs h) hm)
  simp at this
theorem mem_take_of {xs : List Int} {k i : Nat} (h : k < i) (hi : i < xs.length) (e : xs.getD i 0 = xs.getD k 0) : xs.getD i 0 ∈ xs.take i := by
  rw [e, List.getD_eq_getElem?_getD, List.getElem?_eq_getElem (by omega)]
  simp only [Option.getD_some]
  rw [List.mem_take_iff_getElem]; exact ⟨k, by omega, rfl⟩
theorem rowBad {a n : Int} {b : Bool} (h : (decide (a ≠ n) || !b) = true) : (decide (a = n) && b) = false := by simp at h; cases b <;> simp_all
theorem rowGood {a n : Int} {b : Bool} (h : ¬ a ≠ n ∧ b = true) : (decide (a = n) && b) = true := by simp at h; simp [h]
def validConS (c : Con) (n : Int) : Bool := withinB c.vars.length 1 n && allInB c.vars 0 (n - 1) && distinctB c.vars && fitsB c
theorem conS_no {c : Con} {n : Int} (h : (!withinB c.vars.length 1 n || !allInB c.vars 0 (n - 1) || !distinctB c.vars) = true) : false = validConS c n := by
  simp only [validConS]; revert h; cases withinB (c.vars.length : Int) 1 n <;> cases allInB c.vars 0 (n - 1) <;> cases distinctB c.vars <;> simp
theorem conS_yes {c : Con} {n : Int} {b : Bool} (h : (!withinB c.vars.length 1 n || !allInB c.vars 0 (n - 1) || !distinctB c.vars) = false) (hb : b = fitsB c) : b = validConS c n := by
  simp only [validConS, hb]; revert h; cases withinB (c.vars.length : Int) 1 n <;> cases allInB c.vars 0 (n - 1) <;> cases distinctB c.vars <;> simp
theorem validModB_d {m : Mod} {k : Nat} (hk : k < m.doms.length) (h : validDomB (m.doms.getD k 0) = false) : false = validModB m := by
  have : allInB m.doms 0 63 = false := all_false (d := 0) hk h
  simp [validModB, domainsOkB, this]
theorem validModB_c {m : Mod} {k : Nat} (hk : k < m.cons.length) (h : validConS (m.cons.getD k nilCon) m.doms.length = false) : false = validModB m := by
  have : (m.cons.all fun c => validConB c m.doms.length) = false := all_false (d := nilCon) hk (by
    simp only [validConS] at h; simp only [validConB, Bool.and_assoc] at h ⊢; rw [h]; simp)
  simp only [validModB, this, Bool.and_false]
theorem validModB_all {m : Mod} (h : m.doms.all validDomB = true) (hc : (m.cons.all fun c => validConS c m.doms.length) = true) :
    (withinB m.doms.length 1 4 && decide ((m.cons.length : Int) ≤ 6)) = validModB m := by
  have h' : allInB m.doms 0 63 = true := h
  simp only [validModB, domainsOkB, h', Bool.and_true]
  cases hw : withinB (m.doms.length : Int) 1 4 with
  | false => simp
  | true =>
    have : (m.cons.all fun c => validConB c m.doms.length) = true := by
      rw [← hc]; congr 1; funext c; simp only [validConB, validConS, hw, Bool.true_and]
    simp [this]
theorem contains_hit {xs : List Int} {n : Int} {k : Nat} (hk : k < xs.length) (h : xs.getD k 0 = n) : true = xs.contains n := by
  symm; rw [List.contains_iff_mem]; exact h ▸ getD_mem hk
theorem contains_none {xs : List Int} {n : Int} {k : Nat} (hk : ¬ (k : Int) < (xs.length : Int)) (h : (xs.take k).any (fun y => decide (y = n)) = false) : false = xs.contains n := by
  rw [List.take_of_length_le (by omega), List.any_eq_false] at h
  symm; rw [← Bool.not_eq_true, List.contains_iff_mem]; intro hm
  have := h n hm; simp at this
/-- Two different variables occur together in a constraint. -/
def joins (u v : Int) (c : Con) : Bool := decide (u ≠ v) && c.vars.contains u && c.vars.contains v
def adjB (cons : List Con) (u v : Int) : Bool := cons.any (joins u v)
end
section
instance : DecidableEq Con := fun a b => decidable_of_iff (a.kind = b.kind ∧ a.vars = b.vars ∧ a.args = b.args ∧ a.bound = b.bound ∧ a.rows = b.rows) (by cases a; cases b; simp)
instance : DecidableEq Mod := fun a b => decidable_of_iff (a.doms = b.doms ∧ a.cons = b.cons) (by cases a; cases b; simp)
theorem OwnL.cast {A : Type} {E k : Nat} {H K : Hp} {R : Hp → List Value → A → Prop} {v : Value} {xs ys : List A} (e : xs = ys) (h : OwnL E k H K R v xs) : OwnL E k H K R v ys := e ▸ h
theorem OwnL.rowsK {E : Nat} {H K : Hp} {v : Value} {xs : List (List Int)} (h : OwnL E 1 H K RowV v xs) (c : Cmp H K) : Rows (orHp H K) v xs := (h.mono (K' := orHp H K) (orC c)).sl orL (fun _ _ h => h)
theorem OwnL.consK {E : Nat} {H K : Hp} {v : Value} {xs : List Con} (h : OwnL E 5 H K ConV v xs) (c : Cmp H K) : Cons (orHp H K) v xs := (h.mono (K' := orHp H K) (orC c)).sl orL (fun _ _ h => h)
/-! Sizes. -/
def rsum (xs : List (List Int)) : Nat := (xs.map List.length).sum
def conN (c : Con) : Nat := c.vars.length + c.args.length + (c.rows.length + rsum c.rows)
def csum (cs : List Con) : Nat := (cs.map conN).sum
def modN (m : Mod) : Nat := m.doms.length + (m.cons.length + csum m.cons)
theorem le_sum_of {xs : List Nat} {n : Nat} (h : n ∈ xs) : n ≤ xs.sum := by
  induction xs with
  | nil => cases h
  | cons x xs ih =>
    simp only [List.sum_cons]
    cases h with
    | head => omega
    | tail _ h => have := ih h; omega
theorem rsum_mem {xs : List (List Int)} {r : List Int} (h : r ∈ xs) : r.length ≤ rsum xs := le_sum_of (List.mem_map.2 ⟨r, h, rfl⟩)
theorem csum_mem {xs : List Con} {c : Con} (h : c ∈ xs) : conN c ≤ csum xs := le_sum_of (List.mem_map.2 ⟨c, h, rfl⟩)
def SmallC (c : Con) : Prop := conN c ≤ 1048576
def SmallM (m : Mod) : Prop := modN m ≤ 1048576
theorem SmallC.vars {c : Con} (h : SmallC c) : c.vars.length ≤ 1048576 := by simp only [SmallC, conN] at h; omega
theorem SmallC.args {c : Con} (h : SmallC c) : c.args.length ≤ 1048576 := by simp only [SmallC, conN] at h; omega
theorem SmallC.rows {c : Con} (h : SmallC c) : c.rows.length ≤ 1048576 := by simp only [SmallC, conN] at h; omega
theorem SmallC.row {c : Con} (h : SmallC c) : ∀ r ∈ c.rows, r.length ≤ 1048576 := fun r hr => by
  have := rsum_mem hr; simp only [SmallC, conN] at h; omega
theorem SmallM.doms {m : Mod} (h : SmallM m) : m.doms.length ≤ 1048576 := by simp only [SmallM, modN] at h; omega
theorem SmallM.cons {m : Mod} (h : SmallM m) : m.cons.length ≤ 1048576 := by simp only [SmallM, modN] at h; omega
theorem SmallM.con {m : Mod} (h : SmallM m) : ∀ c ∈ m.cons, SmallC c := fun c hc => by
  have := csum_mem hc; simp only [SmallM, SmallC, modN] at *; omega
/-! Copies. -/
/-! Comparisons. -/
theorem eq_len {A : Type} [DecidableEq A] {a b : List A} (h : (a.length : Int) ≠ b.length) : false = decide (a = b) := by
  symm; rw [decide_eq_false_iff_not]; rintro rfl; exact h rfl
theorem eq_at {A : Type} [DecidableEq A] {a b : List A} {k : Nat} (d : A) (h : a.getD k d ≠ b.getD k d) : false = decide (a = b) := by
  symm; rw [decide_eq_false_iff_not]; rintro rfl; exact h rfl
theorem eq_step {A : Type} {a b : List A} {k : Nat} (d : A) (h : k < a.length) (hl : (a.length : Int) = b.length) (h1 : a.take k = b.take k) (h2 : a.getD k d = b.getD k d) : a.take (k + 1) = b.take (k + 1) := by
  rw [take_succ_getD d h, take_succ_getD d (by omega), h1, h2]
theorem eq_end {A : Type} [DecidableEq A] {a b : List A} {k : Nat} (hk : ¬ (k : Int) < (a.length : Int)) (hl : (a.length : Int) = b.length) (h1 : a.take k = b.take k) : true = decide (a = b) := by
  rw [List.take_of_length_le (by omega), List.take_of_length_le (by omega)] at h1; simp [h1]
end
section
theorem wraps_i64 (n : Int) (h₀ : 0 ≤ n) (h₁ : n < 2 ^ 63) : IntKind.i64.wrap n = n := by rw [IntKind.wrap_i64]; omega
theorem ior_nat {a b : Nat} (ha : a < 2 ^ 63) (hb : b < 2 ^ 63) : ior (a : Int) (b : Int) = ((a ||| b : Nat) : Int) := (bits_nat .i64 63 (by decide) wraps_i64 a b ha hb).2
theorem iand_nat {a b : Nat} (ha : a < 2 ^ 63) (hb : b < 2 ^ 63) : iand (a : Int) (b : Int) = ((a &&& b : Nat) : Int) := (bits_nat .i64 63 (by decide) wraps_i64 a b ha hb).1
theorem ishl_one {b : Nat} (hb : b < 63) : ishl 1 (b : Int) = ((2 ^ b : Nat) : Int) := by
  simp only [ishl, Int.toNat_natCast, Int.one_mul, Nat.min_eq_left (show b ≤ 64 by omega)]
  rw [wraps_i64 _ (by exact Int.pow_nonneg (by decide)) (by exact_mod_cast Nat.pow_lt_pow_right (by decide) hb)]
  simp
theorem ishr_nat {a i : Nat} (hi : i ≤ 64) : ishr (a : Int) (i : Int) = ((a >>> i : Nat) : Int) := by
  simp only [ishr, Int.toNat_natCast, Nat.min_eq_left hi, Nat.shiftRight_eq_div_pow]
  rw [Int.fdiv_eq_ediv_of_nonneg _ (Int.pow_nonneg (by decide))]
  simp
def hasB (m i : Int) : Bool := decide (iand (ishr m i) 1 = 1)
theorem hasB_nat {m i : Nat} (hm : m < 2 ^ 63) (hi : i ≤ 64) : hasB (m : Int) (i : Int) = m.testBit i := by
  have h1 : m >>> i < 2 ^ 63 := Nat.lt_of_le_of_lt (by rw [Nat.shiftRight_eq_div_pow]; exact Nat.div_le_self _ _) hm
  simp only [hasB, ishr_nat hi]
  rw [show ((1 : Int)) = ((1 : Nat) : Int) from rfl, iand_nat h1 (by decide), Nat.testBit, Nat.and_comm]
  simp only [Nat.one_and_eq_mod_two]
  rcases Nat.mod_two_eq_zero_or_one (m >>> i) with h | h <;> simp [h]
/-! The graph. -/
def gB (a : Int) (g : List Int) (b : Int) : List Int := if a ≠ b then g.set a.toNat (ior (g.getD a.toNat 0) (ishl 1 b)) else g
def gA (vs : List Int) (g : List Int) (a : Int) : List Int := vs.foldl (gB a) g
def gC (g : List Int) (c : Con) : List Int := c.vars.foldl (gA c.vars) g
def graphI (m : Mod) : List Int := m.cons.foldl gC (List.replicate m.doms.length 0)
/-- The variables of all constraints are indexes below n. -/
def InN (cons : List Con) (n : Nat) : Prop := ∀ c ∈ cons, ∀ a ∈ c.vars, (0 : Int) ≤ a ∧ a < n
/-- A list of masks that hold exactly the pairs of p. -/
def MaskG (n : Nat) (g : List Int) (p : Nat → Nat → Prop) : Prop := g.length = n ∧ ∀ a, a < n → ∃ x : Nat, g.getD a 0 = (x : Int) ∧ ∀ b, x.testBit b = true ↔ b < n ∧ p a b
theorem MaskG.congr {n : Nat} {g : List Int} {p q : Nat → Nat → Prop} (h : MaskG n g p) (e : ∀ a b, p a b ↔ q a b) : MaskG n g q :=
  ⟨h.1, fun a ha => by obtain ⟨x, h1, h2⟩ := h.2 a ha; exact ⟨x, h1, fun b => by rw [h2, e]⟩⟩
theorem lt_of_bits {x n : Nat} (h : ∀ b, x.testBit b = true → b < n) : x < 2 ^ n := Nat.lt_pow_two_of_testBit _ (fun i hi => by
  cases hx : x.testBit i with
  | false => rfl
  | true => have := h i hx; omega)
theorem MaskG.gB {n : Nat} {g : List Int} {p : Nat → Nat → Prop} (hn : n ≤ 62) (h : MaskG n g p) {a b : Int} (ha : 0 ≤ a ∧ a < n) (hb : 0 ≤ b ∧ b < n) :
    MaskG n (gB a g b) (fun x y => p x y ∨ ((x : Int) = a ∧ (y : Int) = b ∧ a ≠ b)) := by
  unfold Go.Proofs.YtolndgeihijlbaaGreat.gB
  by_cases e : a = b
  · simp only [e, ne_eq, not_true_eq_false, if_false]
    exact h.congr (fun x y => by simp)
  · simp only [ne_eq, e, not_false_eq_true, if_true]
    obtain ⟨a, rfl⟩ := Int.eq_ofNat_of_zero_le ha.1
    obtain ⟨b, rfl⟩ := Int.eq_ofNat_of_zero_le hb.1
    have ha' : a < n := by omega
    have hb' : b < n := by omega
    obtain ⟨x, h1, h2⟩ := h.2 a ha'
    have hx : x < 2 ^ 63 := Nat.lt_of_lt_of_le (lt_of_bits (n := n) (fun b hb => ((h2 b).1 hb).1)) (Nat.pow_le_pow_right (by decide) (by omega))
    have hp : 2 ^ b < 2 ^ 63 := Nat.pow_lt_pow_right (by decide) (by omega)
    simp only [Int.toNat_natCast]
    rw [h1, ishl_one (by omega), ior_nat hx hp]
    refine ⟨by simpa using h.1, fun a' ha2 => ?_⟩
    by_cases ea : a' = a
    · subst ea
      refine ⟨x ||| 2 ^ b, by simp [List.getD_eq_getElem?_getD, List.getElem?_set, h.1, ha'], fun y => ?_⟩
      rw [Nat.testBit_or, Bool.or_eq_true, h2, Nat.testBit_two_pow]
      simp only [decide_eq_true_eq]
      constructor
      · rintro (h | h)
        · exact ⟨h.1, .inl h.2⟩
        · subst h; exact ⟨hb', .inr (by simp [e])⟩
      · rintro ⟨h, h3 | h3⟩
        · exact .inl ⟨h, h3⟩
        · right; omega
    · obtain ⟨x', h3, h4⟩ := h.2 a' ha2
      refine ⟨x', by rw [← h3]; simp [List.getD_eq_getElem?_getD, List.getElem?_set, Ne.symm ea], fun y => ?_⟩
      rw [h4]
      constructor
      · rintro ⟨h5, h6⟩; exact ⟨h5, .inl h6⟩
      · rintro ⟨h5, h6 | h6⟩
        · exact ⟨h5, h6⟩
        · omega
theorem MaskG.gA {n : Nat} (hn : n ≤ 62) {a : Int} (ha : 0 ≤ a ∧ a < n) : ∀ {vs : List Int} {g : List Int} {p : Nat → Nat → Prop}, MaskG n g p → (∀ b ∈ vs, 0 ≤ b ∧ b < n) →
    MaskG n (gA vs g a) (fun x y => p x y ∨ ((x : Int) = a ∧ (y : Int) ∈ vs ∧ x ≠ y))
  | [], g, p, h, _ => h.congr (fun x y => by simp)
  | v :: vs, g, p, h, hb => by
    have h1 := (h.gB hn ha (hb v (.head _)))
    have h2 := MaskG.gA hn ha (vs := vs) h1 (fun b hm => hb b (.tail _ hm))
    refine h2.congr (fun x y => ?_)
    simp only [List.mem_cons]
    constructor
    · rintro ((h | ⟨h3, h4, h5⟩) | ⟨h3, h4, h5⟩)
      · exact .inl h
      · exact .inr ⟨h3, .inl h4, by omega⟩
      · exact .inr ⟨h3, .inr h4, h5⟩
    · rintro (h | ⟨h3, h4 | h4, h5⟩)
      · exact .inl (.inl h)
      · exact .inl (.inr ⟨h3, h4, by omega⟩)
      · exact .inr ⟨h3, h4, h5⟩
end
section
/-! The program's way. -/
def lkTo (g : List Int) (w o : Int) (k : Nat) : Int := (List.range k).foldl (fun x (i : Nat) => if hasB o (i : Int) = true then ior x (iandNot (g.getD i 0) w) else x) o
def lkIter (g : List Int) (w : Int) : Nat → Int → Int
  | 0, o => o
  | f + 1, o => if lkTo g w o g.length = o then o else lkIter g w f (lkTo g w o g.length)
def linkedI (m : Mod) (v w : Int) : Int := lkIter (graphI m) w 16 (ishl 1 v)
/-- A path from v through indexes outside w. -/
inductive Conn (n : Nat) (p : Nat → Nat → Prop) (w : Nat → Prop) (v : Nat) : Nat → Prop where
  | refl : Conn n p w v v
  | step {a b : Nat} : Conn n p w v a → p a b → b < n → ¬ w b → Conn n p w v b
end
section
def ROk (n : Nat) (out : List Int) : Prop := out.Nodup ∧ ∀ x ∈ out, (0 : Int) ≤ x ∧ x < n
theorem nodup_len : ∀ (n : Nat) (out : List Int), out.Nodup → (∀ x ∈ out, (0 : Int) ≤ x ∧ x < n) → out.length ≤ n
  | 0, [], _, _ => Nat.le_refl _
  | 0, x :: xs, _, h => by have := h x (.head _); omega
  | n + 1, out, hd, h => by
    have h1 : (out.filter (fun x => decide (x ≠ (n : Int)))).length ≤ n := nodup_len n _ (hd.filter _) (fun x hx => by
      obtain ⟨h2, h3⟩ := List.mem_filter.1 hx
      have := h x h2
      have h4 : x ≠ (n : Int) := by simpa using h3
      omega)
    have h2 : out.length ≤ (out.filter (fun x => decide (x ≠ (n : Int)))).length + 1 := by
      clear h1 h
      induction out with
      | nil => simp
      | cons x xs ih =>
        have hx := List.nodup_cons.1 hd
        by_cases e : x = (n : Int)
        · subst e
          have : (xs.filter (fun x => decide (x ≠ (n : Int)))) = xs := List.filter_eq_self.2 (fun a ha => by
            have : a ≠ (n : Int) := fun e => hx.1 (e ▸ ha)
            simpa using this)
          rw [List.filter_cons_of_neg (by simp), this]; simp
        · have := ih hx.2
          rw [List.filter_cons_of_pos (by simpa using e)]; simp only [List.length_cons]; omega
    omega
theorem ROk.len {n : Nat} {out : List Int} (h : ROk n out) : out.length ≤ n := nodup_len n out h.1 h.2
theorem ROk.push {n : Nat} {out : List Int} {j : Nat} (h : ROk n out) (hj : j < n) (hc : out.contains (j : Int) = false) : ROk n (out ++ [(j : Int)]) := by
  have hm : (j : Int) ∉ out := fun hm => by rw [← List.contains_iff_mem, hc] at hm; cases hm
  refine ⟨List.nodup_append.2 ⟨h.1, by simp, fun a ha b hb e => hm (by rw [List.mem_singleton.1 hb] at e; exact e ▸ ha)⟩, fun x hx => ?_⟩
  rcases List.mem_append.1 hx with hx | hx
  · exact h.2 x hx
  · rw [List.mem_singleton.1 hx]; omega
/-! What it comes to. -/
section
variable {cons : List Con} {rem : List Int} {n : Nat} {v : Nat}
end
theorem ROk.one {n : Nat} {v : Int} (h : 0 ≤ v ∧ v < n) : ROk n [v] := ⟨by simp, fun x hx => by rw [List.mem_singleton.1 hx]; exact h⟩
theorem Conn.congr {n : Nat} {p : Nat → Nat → Prop} {w w' : Nat → Prop} {v b : Nat} (e : ∀ i, i < n → (w i ↔ w' i)) (h : Conn n p w v b) : Conn n p w' v b := by
  induction h with
  | refl => exact .refl
  | step _ hp hc hw ih => exact .step ih hp hc (fun h => hw ((e _ hc).2 h))
end
section
theorem kl_fg {C : Cx} {ops : Array Oper} {Q : Post} {ims0 ims L0 L : List Hp} {G : Env} {fl : List Bool} {l : List Oper} [i : AllIn ims0 ims] (hl : List.Sublist L0 L) (h : KL C false ops Q ims0 L0 fl l G) : KL C false ops Q ims L fl l G :=
  fun a w hf hs => wpSeq_false (fun _ hu => (St.wl hl hu).ims) _ _ _ _ (h a w hf (hs.weak hl))
/-! Rounds of the program's walk. -/
/-! Sets of variables. -/
def withF (w x : Int) : Int := ior w (ishl 1 x)
def withoutI (vars : List Int) : Int := vars.foldl withF 0
theorem with_nat {n : Nat} (hn : n ≤ 4) : ∀ {vars : List Int} {w : Nat}, (∀ x ∈ vars, (0 : Int) ≤ x ∧ x < n) → w < 2 ^ n →
    ∃ x : Nat, vars.foldl withF (w : Int) = (x : Int) ∧ x < 2 ^ n ∧ ∀ b, x.testBit b = true ↔ w.testBit b = true ∨ (b : Int) ∈ vars
  | [], w, _, hw => ⟨w, rfl, hw, fun b => by simp⟩
  | v :: vars, w, h, hw => by
    have h2n : 2 ^ n ≤ 2 ^ 4 := Nat.pow_le_pow_right (by decide) hn
    have hv := h v (.head _)
    obtain ⟨v, rfl⟩ := Int.eq_ofNat_of_zero_le hv.1
    have h1 : 2 ^ v < 2 ^ n := Nat.pow_lt_pow_right (by decide) (by omega)
    obtain ⟨x, h3, h4, h5⟩ := with_nat hn (vars := vars) (w := w ||| 2 ^ v) (fun x hx => h x (.tail _ hx)) (Nat.or_lt_two_pow hw h1)
    refine ⟨x, ?_, h4, fun b => ?_⟩
    · rw [List.foldl_cons, withF, ishl_one (by omega), ior_nat (by omega) (by omega)]; exact h3
    · rw [h5, Nat.testBit_or, Bool.or_eq_true, Nat.testBit_two_pow, decide_eq_true_eq, List.mem_cons]
      constructor
      · rintro ((h | h) | h)
        · exact .inl h
        · exact .inr (.inl (by omega))
        · exact .inr (.inr h)
      · rintro (h | h | h)
        · exact .inl (.inl h)
        · exact .inl (.inr (by omega))
        · exact .inr h
theorem withoutI_nat {n : Nat} (hn : n ≤ 4) {vars : List Int} (h : ∀ x ∈ vars, (0 : Int) ≤ x ∧ x < n) : ∃ x : Nat, withoutI vars = (x : Int) ∧ ∀ b, x.testBit b = true ↔ (b : Int) ∈ vars := by
  obtain ⟨x, h1, _, h3⟩ := with_nat hn (w := 0) h (Nat.two_pow_pos n)
  exact ⟨x, h1, fun b => by rw [h3]; simp⟩
/-! Valid models. -/
theorem allInB_iff {xs : List Int} {lo hi : Int} : allInB xs lo hi = true ↔ ∀ x ∈ xs, lo ≤ x ∧ x ≤ hi := by simp [allInB, List.all_eq_true, withinB]
theorem valid_n {m : Mod} (h : validModB m = true) : 1 ≤ m.doms.length ∧ m.doms.length ≤ 4 := by
  simp only [validModB, domainsOkB, Bool.and_eq_true, withinB_iff] at h; omega
theorem valid_in {m : Mod} (h : validModB m = true) : InN m.cons m.doms.length := fun c hc a ha => by
  simp only [validModB, Bool.and_eq_true, List.all_eq_true] at h
  have := h.2 c hc
  simp only [validConB, Bool.and_eq_true] at this
  have := allInB_iff.1 this.1.1.2 a ha
  omega
/-! Separators. -/
structure SepOk (m : Mod) (vars : List Int) (u v : Int) : Prop where
  n1 : 1 ≤ m.doms.length
  n : m.doms.length ≤ 4
  i : InN m.cons m.doms.length
  vs : ∀ x ∈ vars, (0 : Int) ≤ x ∧ x < m.doms.length
  u : 0 ≤ u ∧ u < m.doms.length
  v : 0 ≤ v ∧ v < m.doms.length
theorem SepOk.w {m : Mod} {vars : List Int} {u v : Int} (h : SepOk m vars u v) : 0 ≤ withoutI vars := by
  obtain ⟨x, h1, _⟩ := withoutI_nat h.n h.vs; rw [h1]; exact Int.natCast_nonneg _
end
section
def natsI (xs : List Nat) : List Int := xs.map (fun (i : Nat) => (i : Int))
def membersTo (b : Int) (k : Nat) : List Int := natsI ((List.range k).filter (fun (i : Nat) => hasB b (i : Int)))
theorem filter_succ (p : Nat → Bool) (k : Nat) : (List.range (k + 1)).filter p = (List.range k).filter p ++ (if p k = true then [k] else []) := by
  rw [List.range_succ, List.filter_append]; congr 1
  by_cases h : p k = true
  · simp [h]
  · simp [h]
theorem members_stepT {b : Int} {k : Nat} {out : List Int} (h : out = membersTo b k) (c : hasB b (k : Int) = true) : out ++ [(k : Int)] = membersTo b (k + 1) := by
  subst h; simp only [membersTo, natsI, filter_succ, c, if_true, List.map_append, List.map_cons, List.map_nil]
theorem members_stepF {b : Int} {k : Nat} {out : List Int} (h : out = membersTo b k) (c : hasB b (k : Int) = false) : out = membersTo b (k + 1) := by
  subst h; simp only [membersTo, natsI, filter_succ, c, Bool.false_eq_true, if_false, List.append_nil]
theorem members_len {b : Int} {k : Nat} {out : List Int} (h : out = membersTo b k) : out.length ≤ k := by
  subst h; simp only [membersTo, natsI, List.length_map]; exact Nat.le_trans (List.length_filter_le _ _) (by simp)
theorem adjB_comm (cons : List Con) (u v : Int) : adjB cons u v = adjB cons v u := by
  simp only [adjB]; congr 1; funext c; simp only [joins]
  rw [Bool.and_right_comm]
  congr 2
  exact decide_eq_decide.2 ⟨fun h e => h e.symm, fun h e => h e.symm⟩
end
section
def mcN (c : Con) : Nat := 2 + c.vars.length + c.args.length + rsum c.rows
def msum (cs : List Con) : Nat := (cs.map mcN).sum
theorem msum_csum (cs : List Con) : msum cs ≤ 2 * cs.length + csum cs := by
  induction cs with
  | nil => simp [msum]
  | cons c cs ih =>
    simp only [msum, csum, List.map_cons, List.sum_cons, List.length_cons] at *
    have : mcN c ≤ 2 + conN c := by simp only [mcN, conN]; omega
    omega
theorem SmallM.marks {m : Mod} (h : SmallM m) : m.doms.length + msum m.cons ≤ 4194304 := by
  have := msum_csum m.cons
  simp only [SmallM, modN] at h; omega
end
section
class IsInt (P : Program) (T : Nat) (k : outParam IntKind) : Prop where u : P.underlying T = some (.int k)
section ops
variable {C : Cx} {dr : Bool} {ops : Array Oper} {Q : Post} {ims L : List Hp} {G : Env} {fl : List Bool} {rest : List Oper}
  {d ty : Nat} {pos : String} {af : Array Edge} {x y : Operand} {T T2 : Nat} {m k : Int} {κ κ2 : IntKind}
section two
variable (hx : ev G x = some (.int κ m)) (hy : ev G y = some (.int κ k))
include hx hy
theorem kl_addK (h : KL C dr ops Q ims L fl.tail rest ((d, .int κ (κ.wrap (m + k))) :: G)) (hlt : Nat.blt d C.n = true := by rfl) :
    KL C dr ops Q ims L fl (⟨some d, .binOp .add T x y T2, ty, pos, af, none⟩ :: rest) G := kl_y (fun a w hf _ => by simp [go_sem, hf _ _ hx, hf _ _ hy]) h hlt
theorem kl_andK (h : KL C dr ops Q ims L fl.tail rest ((d, .int κ (bits .and κ m k)) :: G)) (hlt : Nat.blt d C.n = true := by rfl) :
    KL C dr ops Q ims L fl (⟨some d, .binOp .and T x y T2, ty, pos, af, none⟩ :: rest) G := kl_y (fun a w hf _ => by simp [go_sem, hf _ _ hx, hf _ _ hy]) h hlt
theorem kl_geqK (h : KL C dr ops Q ims L fl.tail rest ((d, .bool (decide (k ≤ m))) :: G)) (hlt : Nat.blt d C.n = true := by rfl) :
    KL C dr ops Q ims L fl (⟨some d, .binOp .geq T x y T2, ty, pos, af, none⟩ :: rest) G := kl_y (fun a w hf _ => by simp [go_sem, hf _ _ hx, hf _ _ hy]) h hlt
end two
theorem kl_shrK (hx : ev G x = some (.int κ m)) (hy : ev G y = some (.int κ2 k)) (h0 : 0 ≤ k) (h : KL C dr ops Q ims L fl.tail rest ((d, .int κ (m.fdiv (2 ^ min k.toNat κ.bits))) :: G)) (hlt : Nat.blt d C.n = true := by rfl) :
    KL C dr ops Q ims L fl (⟨some d, .binOp .shr T x y T2, ty, pos, af, none⟩ :: rest) G := kl_y (fun a w hf _ => by
      have : ¬ k < 0 := by omega
      simp [go_sem, hf _ _ hx, hf _ _ hy, Op.shift, this]) h hlt
theorem kl_cv {T' : Nat} [hT : IsInt C.P T' κ] [hS : IsInt C.P T κ2] (hx : ev G x = some (.int κ2 m)) (h : KL C dr ops Q ims L fl.tail rest ((d, .int κ (κ.wrap m)) :: G)) (hlt : Nat.blt d C.n = true := by rfl) :
    KL C dr ops Q ims L fl (⟨some d, .convert T T' x, ty, pos, af, none⟩ :: rest) G := kl_y (fun a w hf _ => by
      simp [go_sem, hf _ _ hx, convert, run_underlying hT.u, run_underlying hS.u, Conv.intToInt]) h hlt
theorem kl_cvu {T' : Nat} [hT : IsInt C.P T' .u64] [hS : IsInt C.P T κ2] (hx : ev G x = some (.int κ2 m)) (hb : 0 ≤ m ∧ m < 18446744073709551616) (h : KL C dr ops Q ims L fl.tail rest ((d, .int .u64 m) :: G)) (hlt : Nat.blt d C.n = true := by rfl) :
    KL C dr ops Q ims L fl (⟨some d, .convert T T' x, ty, pos, af, none⟩ :: rest) G := kl_cv hx (by
      have e : IntKind.u64.wrap m = m := by rw [IntKind.wrap_u64]; omega
      rw [e]; exact h) hlt
section mm
variable (hx : ev G x = some (.int .i64 m)) (hy : ev G y = some (.int .i64 k))
include hx hy
end mm
section nils
variable {A : Type} {H : Hp} {kk E k' by' : Nat} {z : Value} {R : List Value → A → Prop} {v : Value} {xs : List A} [hT : IsSlice C.P T E k' by' z]
include hT
theorem kl_eqlnil (hx : ev G x = some v) (hy : ev G y = some (.slice none 0 0)) (hv : Sl H kk R v xs) (h : ∀ b, (b = true → xs = []) → KL C dr ops Q ims L fl.tail rest ((d, .bool b) :: G)) (hlt : Nat.blt d C.n = true := by rfl) :
    KL C dr ops Q ims L fl (⟨some d, .binOp .eql T x y T2, ty, pos, af, none⟩ :: rest) G := by
  obtain ⟨a, c, rfl, h1, h2, h3⟩ := hv
  refine kl_y (v := .bool a.isNone) (fun r w hr _ => ?_) (h _ (fun e => ?_)) hlt
  · simp [go_sem, hr _ _ hx, hr _ _ hy, Lib.run_eql_slice_nil w T E a xs.length c 0 0 hT.u]
  · cases a with
    | none =>
      cases xs with
      | nil => rfl
      | cons y ys => obtain ⟨_, _, e', _⟩ := h3 0 (by simp); cases e'
    | some a => cases e
theorem kl_eqlnilX (hx : ev G x = some v) (hy : ev G y = some (.slice none 0 0)) (hv : Sl H kk R v xs) (h : ∀ b, (b = true → xs = []) → (v = .slice none 0 0 → b = true) → KL C dr ops Q ims L fl.tail rest ((d, .bool b) :: G)) (hlt : Nat.blt d C.n = true := by rfl) :
    KL C dr ops Q ims L fl (⟨some d, .binOp .eql T x y T2, ty, pos, af, none⟩ :: rest) G := by
  obtain ⟨a, c, rfl, h1, h2, h3⟩ := hv
  refine kl_y (v := .bool a.isNone) (fun r w hr _ => ?_) (h _ (fun e => ?_) (fun e => ?_)) hlt
  · simp [go_sem, hr _ _ hx, hr _ _ hy, Lib.run_eql_slice_nil w T E a xs.length c 0 0 hT.u]
  · cases a with
    | none =>
      cases xs with
      | nil => rfl
      | cons y ys => obtain ⟨_, _, e', _⟩ := h3 0 (by simp); cases e'
    | some a => cases e
  · cases a with
    | none => rfl
    | some a => injection e with e1; cases e1
theorem kl_neqnilX (hx : ev G x = some v) (hy : ev G y = some (.slice none 0 0)) (hv : Sl H kk R v xs) (h : ∀ b, (b = false → xs = []) → (v = .slice none 0 0 → b = false) → KL C dr ops Q ims L fl.tail rest ((d, .bool b) :: G)) (hlt : Nat.blt d C.n = true := by rfl) :
    KL C dr ops Q ims L fl (⟨some d, .binOp .neq T x y T2, ty, pos, af, none⟩ :: rest) G := by
  obtain ⟨a, c, rfl, h1, h2, h3⟩ := hv
  refine kl_y (v := .bool (!a.isNone)) (fun r w hr _ => ?_) (h _ (fun e => ?_) (fun e => ?_)) hlt
  · simp [go_sem, hr _ _ hx, hr _ _ hy, run_neq_slice_nil_any w T E a xs.length c 0 0 hT.u]
  · cases a with
    | none =>
      cases xs with
      | nil => rfl
      | cons y ys => obtain ⟨_, _, e', _⟩ := h3 0 (by simp); cases e'
    | some a => cases e
  · cases a with
    | none => rfl
    | some a => injection e with e1; cases e1
end nils
end ops
theorem tup2 {a a' b b' : Value} (h1 : a = a') (h2 : b = b') : Value.tuple #[a, b] = Value.tuple #[a', b'] := by rw [h1, h2]
theorem smpC : (∀ b : Bool, ((!b) = true) = (b = false)) ∧ (∀ b : Bool, ((!b) = false) = (b = true)) ∧ (!true) = false ∧ (!false) = true ∧ (∀ a b : Bool, ((a && b) = true) = (a = true ∧ b = true)) ∧ (∀ a b : Bool, ((a || b) = false) = (a = false ∧ b = false)) := by
  refine ⟨fun b => ?_, fun b => ?_, rfl, rfl, fun a b => ?_, fun a b => ?_⟩ <;> cases b <;> simp
end
section
/-- How such a call ends: L0 has become L1; Ln: new memory, to be written; K: new memory that is written no more. -/
def ResT (w : World) (L0 : List Hp) (phi : Value → List Hp → List Hp → Hp → Prop) : Ending → World → Prop
  | .returned v, w' => Ext (fun b => ∃ H ∈ L0, H b ≠ none) w w' ∧ ∃ L1 Ln K, (∀ H ∈ L1, Agree H w' ∧ ∀ b, H b ≠ none → w.heap.size ≤ b ∨ ∃ K ∈ L0, K b ≠ none) ∧ (∀ H ∈ Ln, Agree H w' ∧ Fr w H) ∧ (L1 ++ Ln).Pairwise Apart ∧ (Agree K w' ∧ Fr w K ∧ ∀ H ∈ L1 ++ Ln, Apart H K) ∧ phi v L1 Ln K
  | _, _ => False
def SpecT (P : Program) (f : FuncId) (args : List Value) (L0 ims : List Hp) (phi : Value → List Hp → List Hp → Hp → Prop) : Prop :=
  ∀ w, (∀ H ∈ L0, Agree H w) → L0.Pairwise Apart → (∀ I ∈ ims, Agree I w ∧ ∀ H ∈ L0, Apart H I) → Calls P f args.toArray w (ResT w L0 phi)
theorem SpecT.mono {P : Program} {f : FuncId} {args : List Value} {L0 ims : List Hp} {p q : Value → List Hp → List Hp → Hp → Prop} (h : SpecT P f args L0 ims p) (hq : ∀ v L1 Ln K, p v L1 Ln K → q v L1 Ln K) : SpecT P f args L0 ims q :=
  fun w h1 h2 h3 => (h w h1 h2 h3).mono fun e w' he => by
    cases e with
    | returned v => obtain ⟨h1, L1, Ln, K, h2, h3, h4, h5, h6⟩ := he; exact ⟨h1, L1, Ln, K, h2, h3, h4, h5, hq _ _ _ _ h6⟩
    | panicked c => exact he
    | outgrown => exact he
theorem St.initT {w : World} {L0 ims : List Hp} (hH : ∀ H ∈ L0, Agree H w) (hp : L0.Pairwise Apart) (h : ∀ I ∈ ims, Agree I w ∧ ∀ H ∈ L0, Apart H I) : St w (.of (fun b => ∃ H ∈ L0, H b ≠ none)) ims L0 w :=
  ⟨Nat.le_refl _, fun _ _ _ => rfl, fun I hI => (h I hI).1, fun K hK => ⟨hH K hK, fun b hb => .inr ⟨K, hK, hb⟩, fun I hI => (h I hI).2 K hK⟩, hp, Io.refl _, trivial, Nat.zero_le _⟩
theorem specT_of {P : Program} {f : FuncId} {fn : Func} {c : Code} {vs : List Value} {n : Nat} {L0 ims : List Hp} {phi : Value → List Hp → List Hp → Hp → Prop}
    (hf : P.funcs[f]? = some fn) (hb : fn.body = some c) (hn : fn.ntmps = n) (hle : Nat.ble vs.length n = true)
    (h : ∀ B, KC ⟨P, n, B, .of (fun b => ∃ H ∈ L0, H b ≠ none), false, [], none⟩ (bodyPost P fn (ResT B L0 phi)) ims L0 c (pars 0 vs)) : SpecT P f vs L0 ims phi := fun w hH hp hA => by
  refine calls_of_wp hf hb ((wpIn_wide (n := 0)).1 ?_)
  rw [hn]
  exact h w _ w (fit_pars (Nat.le_of_ble_eq_true hle)) (St.initT hH hp hA)
/-- L without the heaplets of l, in any order. -/
class TakeL (l L : List Hp) (L' : outParam (List Hp)) : Prop where
  t : List.Perm L (l ++ L')
instance (L : List Hp) : TakeL [] L L := ⟨List.Perm.refl _⟩
theorem RemR.perm {H : Hp} {L L' : List Hp} (r : RemR H L L') : List.Perm L (H :: L') := by
  induction r with
  | head L => exact List.Perm.refl _
  | tail K h ih => exact (List.Perm.cons K ih).trans (List.Perm.swap _ _ _)
instance (H : Hp) (l L L1 L2 : List Hp) [r : RemH H L L1] [t : TakeL l L1 L2] : TakeL (H :: l) L L2 := ⟨r.r.perm.trans (List.Perm.cons H t.t)⟩
theorem Apart.symm {H K : Hp} (h : Apart H K) : Apart K H := fun b => (h b).symm
theorem pw_perm {L L' : List Hp} (p : List.Perm L L') (h : L.Pairwise Apart) : L'.Pairwise Apart := p.pairwise h (fun h => h.symm)
theorem St.perm {B : World} {X : Side} {ims L L' : List Hp} {w : World} (h : St B X ims L w) (p : List.Perm L L') : St B X ims L' w :=
  h.still (fun b hb => by
      rcases hb with ⟨H, hH, hb⟩ | hb
      · exact .inl ⟨H, p.mem_iff.2 hH, hb⟩
      · exact .inr hb) h.im (fun H hH => h.own H (p.mem_iff.2 hH)) (pw_perm p h.nd)
section rets
variable {P : Program} {n : Nat} {B : World} {ims L : List Hp} {G : Env} {fn : Func} {L0 : List Hp} {phi : Value → List Hp → List Hp → Hp → Prop}
/-- What a function returns that has its results in temporaries. -/
theorem kq_retT' {v : Value} (hr : ∀ a : Act, Fit (n, []) G a → ∀ w, St B (.of (fun b => ∃ H ∈ L0, H b ≠ none)) ims L w → (results fn a.tmps).run P w = .ok v w) (L1 Ln : List Hp) (K : Hp) {La L' : List Hp} [t1 : TakeL L1 L La] [t2 : TakeL Ln La L'] [gk : GotI K ims] (hf : ∀ H ∈ Ln, Fr B H) (hk : Fr B K) (hp : phi v L1 Ln K) :
    KQ ⟨P, n, B, .of (fun b => ∃ H ∈ L0, H b ≠ none), false, [], none⟩ ims L G (bodyPost P fn (ResT B L0 phi) .ret) := fun a w hF hS => by
  have h2 : St B _ ims ((L1 ++ Ln) ++ L') w := hS.perm (t1.t.trans (by rw [List.append_assoc]; exact List.Perm.append_left L1 t2.t))
  have hsub : ∀ H, H ∈ L1 ++ Ln → H ∈ (L1 ++ Ln) ++ L' := fun H h => List.mem_append_left _ h
  refine ⟨hF.defers, v, hr a hF w hS, ⟨hS.size, hS.ext, hS.io⟩, L1, Ln, K, fun H hH => ?_, fun H hH => ?_, ?_, ⟨(gk.g hS).1, hk, fun H hH => (gk.g h2).2 H (hsub H hH)⟩, hp⟩
  · have := h2.own H (hsub H (List.mem_append_left _ hH))
    exact ⟨this.1, this.2.1⟩
  · exact ⟨(h2.own H (hsub H (List.mem_append_right _ hH))).1, hf H hH⟩
  · exact (List.pairwise_append.1 h2.nd).1
theorem kq_retT {t : Nat} {v : Value} (hr : fn.results = #[.tmp t]) (hv : look t G = some v) (L1 Ln : List Hp) (K : Hp) {La L' : List Hp} [k1 : TakeL L1 L La] [k2 : TakeL Ln La L'] [gk : GotI K ims] (hf : ∀ H ∈ Ln, Fr B H) (hk : Fr B K) (hp : phi v L1 Ln K) :
    KQ ⟨P, n, B, .of (fun b => ∃ H ∈ L0, H b ≠ none), false, [], none⟩ ims L G (bodyPost P fn (ResT B L0 phi) .ret) :=
  kq_retT' (fun a hF w _ => by rw [results_tmp hr, (hF.get t v hv).2]) L1 Ln K hf hk hp
theorem kq_retT0 (hr : fn.results = #[]) (L1 Ln : List Hp) (K : Hp) {La L' : List Hp} [k1 : TakeL L1 L La] [k2 : TakeL Ln La L'] [gk : GotI K ims] (hf : ∀ H ∈ Ln, Fr B H) (hk : Fr B K) (hp : phi (.tuple #[]) L1 Ln K) :
    KQ ⟨P, n, B, .of (fun b => ∃ H ∈ L0, H b ≠ none), false, [], none⟩ ims L G (bodyPost P fn (ResT B L0 phi) .ret) :=
  kq_retT' (fun a hF w _ => by simp [results, hr]) L1 Ln K hf hk hp
/-- A struct that lies in a cell. -/
theorem rC {a T b E k : Nat} {cs : List Value} {F : List Value → List Hp} [hT : AggC P T k] [hF : BoxF b cs E L F] (hr : fn.results = #[.cell a T]) (hv : look a G = some (.pointer (some ⟨b, 0, none⟩))) (hkb : Nat.beq cs.length k = true)
    (L1 Ln : List Hp) (K : Hp) {La L' : List Hp} [t1 : TakeL L1 L La] [t2 : TakeL Ln La L'] [gk : GotI K ims] (hf : ∀ H ∈ Ln, Fr B H) (hk : Fr B K) (hp : phi (.agg cs.toArray) L1 Ln K) :
    KQ ⟨P, n, B, .of (fun b => ∃ H ∈ L0, H b ≠ none), false, [], none⟩ ims L G (bodyPost P fn (ResT B L0 phi) .ret) :=
  kq_retT' (fun a' hFt w hS => by
    have hA := (hS.own _ (hF.u cs).mem).1
    have hat : At (sing b (.cells cs.toArray E (0, 0))) (.pointer (some ⟨b, 0, none⟩)) cs := At.sing (cs := cs.toArray)
    have hc := loadCells_at (P := P) hA hat
    rw [Nat.eq_of_beq_eq_true hkb] at hc
    have h1 : (loadVar T ⟨b, 0, none⟩).run P w = .ok (.agg cs.toArray) w := by
      simp only [loadVar, Sem.run_bind, Sem.run_pure, Result.andThen_ok, AggC.run, sizeOf_run hT.i, hc, if_true]
    have h2 : a'.tmps.getD a undef = .pointer (some ⟨b, 0, none⟩) := (hFt.get a _ hv).2
    simp [results, hr, asAddr]
    simp at h2
    simp [h2, h1]) L1 Ln K hf hk hp
end rets
theorem fr1 {B : World} {H : Hp} (h : Fr B H) : ∀ K ∈ [H], Fr B K := fun K hK => by rw [List.mem_singleton.1 hK]; exact h
theorem frn {B : World} : ∀ K ∈ ([] : List Hp), Fr B K := fun K hK => by cases hK
theorem frc {B : World} {H : Hp} {l : List Hp} (h : Fr B H) (t : ∀ K ∈ l, Fr B K) : ∀ K ∈ H :: l, Fr B K := fun K hK => by
  cases hK with
  | head => exact h
  | tail _ hK => exact t K hK
/-- What an argument stands on, apart from what is handed over. -/
class GotT (l : List Hp) (K : Hp) (ims L' : List Hp) : Prop where
  g : ∀ {B : World} {X : Side} {w : World}, St B X ims (l ++ L') w → Agree K w ∧ ∀ H ∈ l, Apart H K
instance (l ims L' : List Hp) : GotT l noHp ims L' := ⟨fun _ => ⟨agree_no _, fun _ _ _ => .inr rfl⟩⟩
instance (l : List Hp) (K : Hp) (ims L' : List Hp) [i : In K ims] : GotT l K ims L' := ⟨fun s => ⟨s.im K i.mem, fun H hH => (s.own H (List.mem_append_left _ hH)).2.2 K i.mem⟩⟩
instance (l : List Hp) (K : Hp) (ims L' : List Hp) [i : In K L'] : GotT l K ims L' := ⟨fun s => ⟨(s.own K (List.mem_append_right _ i.mem)).1, fun H hH => (List.pairwise_append.1 s.nd).2.2 H hH K i.mem⟩⟩
instance (l : List Hp) (K M : Hp) (ims L' : List Hp) [h : GotT l K ims L'] [k : GotT l M ims L'] : GotT l (orHp K M) ims L' := ⟨fun s => ⟨agree_or (h.g s).1 (k.g s).1, fun H hH b => by
  rcases (h.g s).2 H hH b with e | e
  · exact .inl e
  · rcases (k.g s).2 H hH b with e' | e'
    · exact .inl e'
    · exact .inr (by simp [orHp, e, e'])⟩⟩
class AllGotT (l : List Hp) (m : List Hp) (ims L' : List Hp) : Prop where
  g : ∀ {B : World} {X : Side} {w : World}, St B X ims (l ++ L') w → ∀ K ∈ m, Agree K w ∧ ∀ H ∈ l, Apart H K
instance (l ims L' : List Hp) : AllGotT l [] ims L' := ⟨fun _ _ h => by cases h⟩
instance (l : List Hp) (K : Hp) (m ims L' : List Hp) [h : GotT l K ims L'] [t : AllGotT l m ims L'] : AllGotT l (K :: m) ims L' :=
  ⟨fun s M hM => by cases hM with | head => exact h.g s | tail _ h' => exact t.g s M h'⟩
/-- Behind such a call. -/
theorem St.took {B : World} {X : Side} {ims L0 L' L1 Ln : List Hp} {w w' : World} (h : St B X ims (L0 ++ L') w) (e : Ext (fun b => ∃ H ∈ L0, H b ≠ none) w w')
    (h1 : ∀ H ∈ L1, Agree H w' ∧ ∀ b, H b ≠ none → w.heap.size ≤ b ∨ ∃ K ∈ L0, K b ≠ none) (hn : ∀ H ∈ Ln, Agree H w' ∧ Fr w H) (hp : (L1 ++ Ln).Pairwise Apart) {K : Hp} (hk : Agree K w' ∧ Fr w K ∧ ∀ H ∈ L1 ++ Ln, Apart H K) : St B X (K :: ims) (L1 ++ Ln ++ L') w' := by
  have dom : ∀ H ∈ L1 ++ Ln, Agree H w' ∧ ∀ b, H b ≠ none → w.heap.size ≤ b ∨ ∃ K ∈ L0, K b ≠ none := fun H hH => by
    rcases List.mem_append.1 hH with hH | hH
    · exact h1 H hH
    · exact ⟨(hn H hH).1, fun b hb => .inl ((hn H hH).2.1 b hb)⟩
  have other : ∀ K : Hp, Agree K w → (∀ H ∈ L0, Apart H K) → Agree K w' ∧ ∀ H ∈ L1 ++ Ln, Apart H K := fun K hK hap => by
    refine ⟨fun b o hb => ?_, fun H hH b => ?_⟩
    · rw [e.same b (hK.lt hb) (fun ⟨H, hH, hx⟩ => by
        rcases hap H hH b with h2 | h2
        · exact hx h2
        · rw [h2] at hb; cases hb)]
      exact hK b o hb
    · by_cases hb : H b = none
      · exact .inl hb
      · right
        cases hk : K b with
        | none => rfl
        | some o =>
          rcases (dom H hH).2 b hb with h2 | ⟨M, hM, hx⟩
          · exact absurd (hK.lt hk) (Nat.not_lt.2 h2)
          · rcases hap M hM b with h3 | h3
            · exact absurd h3 hx
            · rw [h3] at hk; cases hk
  have ho : ∀ K ∈ L', Agree K w' ∧ ∀ H ∈ L1 ++ Ln, Apart H K := fun K hK =>
    other K (h.own K (List.mem_append_right _ hK)).1 (fun H hH => (List.pairwise_append.1 h.nd).2.2 H hH K hK)
  have hi : ∀ I ∈ ims, Agree I w' ∧ ∀ H ∈ L1 ++ Ln, Apart H I := fun I hI =>
    other I (h.im I hI) (fun H hH => (h.own H (List.mem_append_left _ hH)).2.2 I hI)
  have freshK : ∀ M : Hp, Agree M w → Apart M K := fun M hM b => by
    by_cases hb : K b = none
    · exact .inr hb
    · left
      cases hm : M b with
      | none => rfl
      | some o => exact absurd (hM.lt hm) (Nat.not_lt.2 (hk.2.1.1 b hb))
  refine h.turn e.size (fun b hb hd => e.same b hb (fun ⟨H, hH, hx⟩ => hd (.inl ⟨H, List.mem_append_left _ hH, hx⟩))) e.io (fun b hb => ?_) (fun b hb hx => ?_) (fun I hI => ?_) (fun K hK => ?_) ?_
  · rcases hb with ⟨H, hH, hb⟩ | hb
    · rcases List.mem_append.1 hH with hH | hH
      · rcases (dom H hH).2 b hb with h2 | ⟨K, hK, hx⟩
        · exact .inr h2
        · exact .inl (.inl ⟨K, List.mem_append_left _ hK, hx⟩)
      · exact .inl (.inl ⟨H, List.mem_append_right _ hH, hb⟩)
    · obtain ⟨hB, M, hM, hb⟩ := hb
      cases hM with
      | head => exact .inr (hk.2.1.1 b hb)
      | tail _ hM => exact .inl (.inr ⟨hB, M, hM, hb⟩)
  · have hn : ¬ ∃ H ∈ L0, H b ≠ none := fun ⟨H, hH, hxx⟩ => by
      rcases (h.own H (List.mem_append_left _ hH)).2.1 b hxx with h2 | h2
      · omega
      · exact hx h2
    rw [e.same b (Nat.lt_of_lt_of_le hb h.size) hn]; exact h.ext b hb hx
  · cases hI with
    | head => exact hk.1
    | tail _ hI => exact (hi I hI).1
  · rcases List.mem_append.1 hK with hK | hK
    · refine ⟨(dom K hK).1, fun b hb => ?_, fun I hI => by
        cases hI with
        | head => exact hk.2.2 K hK
        | tail _ hI => exact (hi I hI).2 K hK⟩
      rcases (dom K hK).2 b hb with h2 | ⟨M, hM, hx⟩
      · exact .inl (Nat.le_trans h.size h2)
      · exact (h.own M (List.mem_append_left _ hM)).2.1 b hx
    · exact ⟨(ho K hK).1, (h.own K (List.mem_append_right _ hK)).2.1, fun I hI => by
        cases hI with
        | head => exact freshK K (h.own K (List.mem_append_right _ hK)).1
        | tail _ hI => exact (h.own K (List.mem_append_right _ hK)).2.2 I hI⟩
  · exact List.pairwise_append.2 ⟨hp, (List.pairwise_append.1 h.nd).2.1, fun H hH K hK => (ho K hK).2 H hH⟩
section calls
variable {C : Cx} {dr : Bool} {ops : Array Oper} {Q : Post} {ims L : List Hp} {G : Env} {fl : List Bool} {rest : List Oper} {d ty : Nat} {pos : String} {af : Array Edge}
theorem kl_callT' {od : Option Nat} {f : Operand} {xs : List Operand} {ats : Array Nat} {g : Nat} {cap : Array Value} {vs : List Value} {L0 ims' L' : List Hp} {phi : Value → List Hp → List Hp → Hp → Prop} {Gv : Value → Env} [hb : FnC C.P g]
    (hf : ev G f = some (.func (.func g) #[] cap)) (ha : evs G xs = some vs) (hs : SpecT C.P g (vs ++ cap.toList) L0 ims' phi) [hF : TakeL L0 L L'] [hi : AllGotT L0 ims' ims L']
    (hput : ∀ a v, Fit C.m G a → Fit C.m (Gv v) (a.put od v))
    (h : ∀ v L1 Ln K, phi v L1 Ln K → (∀ H ∈ Ln, Fr C.B H) → Fr C.B K → KL C dr ops Q (K :: ims) (L1 ++ Ln ++ L') fl.tail rest (Gv v)) (hfl : fl.headD false = false) (hdr : (!dr || rest.isEmpty) = true) :
    KL C dr ops Q ims L fl (⟨od, .call ⟨.value f, xs.toArray, ats⟩, ty, pos, af, none⟩ :: rest) G :=
  kl_act rfl hfl fun a w hFt hS0 => by
    have hrun : (execOp a.eval ⟨od, .call ⟨.value f, xs.toArray, ats⟩, ty, pos, af, none⟩).run C.P w = .ok (.enter g (vs ++ cap.toList).toArray) w := by
      have h1 : xs.map a.eval = vs := hFt.evs ha
      simp only [execOp, resolve, hFt.ev hf, Deferred.ofValue, Sem.run_bind, Sem.run_pure, Result.andThen_ok, invoke, List.map_toArray, h1]
      rw [hb.run]
      simp
    unfold Oper.wp
    rw [hrun]
    have hS := hS0.perm hF.t
    refine (hs w (fun H hH => (hS.own H (List.mem_append_left _ hH)).1) (List.pairwise_append.1 hS.nd).1 (fun I hI => hi.g hS I hI)).mono fun e w' he => ?_
    cases e with
    | returned v =>
      obtain ⟨h1, L1, Ln, K, h2, h3, h4, h5, h6⟩ := he
      refine ⟨K :: ims, L1 ++ Ln ++ L', _, ?_, hput a v hFt, hS.took h1 h2 h3 h4 h5, h v L1 Ln K h6 (fun H hH => ⟨fun b hb => Nat.le_trans hS.size ((h3 H hH).2.1 b hb), (h3 H hH).2.2⟩) ⟨fun b hb => Nat.le_trans hS.size (h5.2.1.1 b hb), h5.2.1.2⟩⟩
      cases dr with
      | true => left; simpa using hdr
      | false => right; intro e; cases e
    | panicked c => exact he
    | outgrown => exact he.elim
theorem cT {f : Operand} {xs : List Operand} {ats : Array Nat} {g : Nat} {cap : Array Value} {vs : List Value} {L0 ims' L' : List Hp} {phi : Value → List Hp → List Hp → Hp → Prop} [hb : FnC C.P g]
    (hf : ev G f = some (.func (.func g) #[] cap)) (ha : evs G xs = some vs) (hs : SpecT C.P g (vs ++ cap.toList) L0 ims' phi) [hF : TakeL L0 L L'] [hi : AllGotT L0 ims' ims L']
    (h : ∀ v L1 Ln K, phi v L1 Ln K → (∀ H ∈ Ln, Fr C.B H) → Fr C.B K → KL C dr ops Q (K :: ims) (L1 ++ Ln ++ L') fl.tail rest ((d, v) :: G)) (hlt : Nat.blt d C.n = true := by rfl) (hfl : fl.headD false = false := by rfl) (hdr : (!dr || rest.isEmpty) = true := by rfl) :
    KL C dr ops Q ims L fl (⟨some d, .call ⟨.value f, xs.toArray, ats⟩, ty, pos, af, none⟩ :: rest) G :=
  kl_callT' hf ha hs (fun a v hFt => hFt.put (by simpa [Nat.blt_eq, Cx.m] using hlt)) h hfl hdr
/-- What is owned is written no more. -/
theorem fZ (H : Hp) {L' : List Hp} [r : RemH H L L'] (h : KL C false ops Q (H :: ims) L' fl rest G) (hlo : C.lo = false := by rfl) : KL C false ops Q ims L fl rest G := fun a w hf hs => by
  have h1 := h a w hf hs.rem
  refine wpSeq_false ?_ _ _ _ _ h1
  intro u hu
  rw [Cx.whi hlo] at hu ⊢; exact hu.rem
/-- The list of what is owned, written plainly. -/
class NormL (l : List Hp) (r : outParam (List Hp)) : Prop where e : l = r
instance (m r : List Hp) [h : NormL m r] : NormL ([] ++ m) r := ⟨h.e⟩
instance (a : Hp) (l m r : List Hp) [h : NormL (l ++ m) r] : NormL ((a :: l) ++ m) (a :: r) := ⟨by rw [List.cons_append, h.e]⟩
instance (l m n r : List Hp) [h : NormL (l ++ (m ++ n)) r] : NormL ((l ++ m) ++ n) r := ⟨by rw [List.append_assoc, h.e]⟩
instance (priority := low) (l : List Hp) : NormL l l := ⟨rfl⟩
theorem nm {Lr : List Hp} [hn : NormL L Lr] (h : KL C dr ops Q ims Lr fl rest G) : KL C dr ops Q ims L fl rest G := by have e := hn.e; subst e; exact h
end calls
theorem cg {C : Cx} {dr : Bool} {ops : Array Oper} {Q : Post} {ims L : List Hp} {G : Env} {fl : List Bool} {rest : List Oper} (L2 : List Hp) (e : L = L2) (h : KL C dr ops Q ims L2 fl rest G) : KL C dr ops Q ims L fl rest G := e ▸ h
theorem tk {C : Cx} {ims L : List Hp} {G : Env} {p : Act → World → Prop} (L2 : List Hp) {L' : List Hp} [t : TakeL L2 L L'] (h : KQ C ims L2 G p) : KQ C ims L G p := fun a w hf hs => h a w hf ((hs.perm t.t).weak (i := allIn_refl _) (List.sublist_append_left _ _))
theorem kc_take {C : Cx} {Q : Post} {ims L : List Hp} {G : Env} {c : Code} (L2 : List Hp) {L' : List Hp} [t : TakeL L2 L L'] (h : KC C Q ims L2 c G) : KC C Q ims L c G := fun a w hf hs => h a w hf ((hs.perm t.t).weak (i := allIn_refl _) (List.sublist_append_left _ _))
theorem kq_frz {C : Cx} {ims L : List Hp} {G : Env} {p : Act → World → Prop} (H : Hp) {L' : List Hp} [r : RemH H L L'] (h : KQ C (H :: ims) L' G p) : KQ C ims L G p := fun a w hf hs => h a w hf hs.rem
end
section
/-- What is left of a drawn region: the operations that are not in 'listed', in whatever order. LS: what is owned and read by operations that may be taken early; fx: the operations that come behind all of these. -/
def KT (C : Cx) (ops : Array Oper) (Q : Post) (fx : Nat → Bool) (LS : List Hp) (fuel : Nat) (listed : Array Bool) (ims L : List Hp) (G : Env) : Prop :=
  ∀ a w, Fit C.m G a → St C.B C.X ims L w → Dc .any ops listed → anyG C.P .any ops Q (St C.B C.X (LS ++ ims) []) fx fuel listed a w
/-- Behind an operation that may be taken early. -/
def QP (C : Cx) (ops : Array Oper) (Q : Post) (fx : Nat → Bool) (LS : List Hp) (fuel : Nat) (listed : Array Bool) (ims L : List Hp) : Post :=
  fun e a w => e = .normal ∧ (St C.B C.X ims L w → Dc .any ops listed → anyG C.P .any ops Q (St C.B C.X (LS ++ ims) []) fx fuel listed a w)
/-- Behind another one. -/
def QA (C : Cx) (ops : Array Oper) (Q : Post) (fx : Nat → Bool) (LS : List Hp) (k fuel : Nat) (listed : Array Bool) (ims : List Hp) : Post :=
  fun e a w => e = .normal ∧ (fx k = true ∨ St C.B C.X (LS ++ ims) [] w) ∧ (Dc .any ops listed → anyG C.P .any ops Q (St C.B C.X (LS ++ ims) []) fx fuel listed a w)
theorem St.low {B : World} {X : Side} {ims L LS : List Hp} {w : World} (h : St B X ims L w) (s : LS.Sublist L) : St B X (LS ++ ims) [] w :=
  h.still (fun b hb => by
      rcases hb with ⟨_, hb, _⟩ | ⟨hB, K, hK, hb⟩
      · cases hb
      · rcases List.mem_append.1 hK with hK | hK
        · exact .inl ⟨K, s.mem hK, hb⟩
        · exact .inr ⟨hB, K, hK, hb⟩)
    (fun K hK => by
      rcases List.mem_append.1 hK with hK | hK
      · exact (h.own K (s.mem hK)).1
      · exact h.im K hK)
    (fun _ h => by cases h) List.Pairwise.nil
theorem allIn_low {LS l m : List Hp} (i : AllIn l m) : AllIn (LS ++ l) (LS ++ m) := ⟨fun a ha => by
  rcases List.mem_append.1 ha with h | h
  · exact List.mem_append_left _ h
  · exact List.mem_append_right _ (i.all a h)⟩
theorem kc_tree {P : Program} {n : Nat} {B : World} {X : Side} {df : List Deferred} {R : Option Nat} {Q : Post} {ims L : List Hp} {G : Env} {id : Nat} {l : List Oper} (fx : Nat → Bool) (LS : List Hp) (hm : P.follows .mixedOrders = true)
    (h : KT ⟨P, n, B, X, false, df, R⟩ l.toArray (Only Q) fx LS l.length (Array.replicate l.length false) ims L G) (hd : noDef l = true := by rfl) : KC ⟨P, n, B, X, false, df, R⟩ Q ims L (.region id l.toArray true) G := fun a w hf hs => by
  refine wpIn_region_anyL hm hd (wpAny_of_anyG (S := St B X (LS ++ ims) []) (fx := fx) _ _ _ _ ?_)
  have := h a _ hf hs.drew (Dc.none _ _ _)
  simpa using this
section laws
variable {C : Cx} {ops : Array Oper} {Q : Post} {fx : Nat → Bool} {LS : List Hp} {fuel : Nat} {listed : Array Bool} {ims L : List Hp} {G : Env}
theorem qq {imsq : List Hp} (h : KT C ops Q fx LS fuel listed ims L G) : KQ C imsq [] G (QP C ops Q fx LS fuel listed ims L .normal) :=
  fun a w hf _ => ⟨rfl, fun hs => h a w hf hs⟩
theorem qa {k : Nat} {ims0 : List Hp} [i : AllIn ims0 ims] (hl : LS.Sublist L) (h : KT C ops Q fx LS fuel listed ims L G) : KQ C ims L G (QA C ops Q fx LS k fuel listed ims0 .normal) :=
  fun a w hf hs => ⟨rfl, .inr ((hs.low hl).ims (i := allIn_low i)), fun hd => anyG_mono (fun _ hu => St.ims (i := allIn_low i) hu) _ _ _ _ (h a w hf hs hd)⟩
theorem qx {k : Nat} {ims0 : List Hp} [i : AllIn ims0 ims] (hx : fx k = true) (h : KT C ops Q fx LS fuel listed ims L G) : KQ C ims L G (QA C ops Q fx LS k fuel listed ims0 .normal) :=
  fun a w hf hs => ⟨rfl, .inl hx, fun hd => anyG_mono (fun _ hu => St.ims (i := allIn_low i) hu) _ _ _ _ (h a w hf hs hd)⟩
theorem kt_q (k : Nat) {o : Oper} (hl : LS.Sublist L) (ho : ops[k]? = some o)
    (hB : (Region.noSelect ops && (Region.ready .any ops listed).contains k && Region.free .any ops listed k && (List.range ops.size).all (fun j => !(fx j) || listed.getD j false || waitsB .any ops ops.size j k)) = true)
    (h : KL C true ops (QP C ops (Only Q) fx LS fuel (listed.setIfInBounds k true) ims L) (LS ++ ims) [] [true] [o] G) : KT C ops (Only Q) fx LS (fuel + 1) listed ims L G := fun a w hf hs hdc => by
  have h1 := h a w hf (hs.low hl)
  have hW : C.W [] = [] := by unfold Cx.W; cases C.lo <;> rfl
  rw [hW] at h1
  simp only [Bool.and_eq_true, List.all_eq_true, List.mem_range, Bool.or_eq_true, Bool.not_eq_true'] at hB
  obtain ⟨⟨⟨hsel, hr⟩, hfree⟩, hwait⟩ := hB
  have hr' : k ∈ Region.ready .any ops listed := by simpa using hr
  have main : ∀ v, YieldsIf C.P ops (St C.B C.X (LS ++ ims) []) o v a → anyG C.P .any ops (Only Q) (St C.B C.X (LS ++ ims) []) fx fuel (listed.setIfInBounds k true) (a.put o.dst v) w →
      anyG C.P .any ops (Only Q) (St C.B C.X (LS ++ ims) []) fx (fuel + 1) listed a w := fun v hy hg =>
    anyG_first ho (Region.noSelect_spec hsel) (fun c a w hq => hq.elim) fuel listed a w (fun j hj hfj => by
      rcases hwait j hj with (h2 | h2) | h2
      · rw [hfj] at h2; cases h2
      · exact .inl h2
      · exact .inr h2) hdc (Region.free_spec ho hfree) hr' hy (hs.low hl) hg
  unfold wpSeq at h1
  split at h1
  · rename_i hw
    rcases h1 with ⟨v, hv, h2⟩ | ⟨hn, _⟩
    · exact main v (.inl ⟨hw, hv⟩) (h2.2 hs (hdc.set hr'))
    · cases hn rfl
  · rename_i hw
    exact main undef (.inr ⟨by simpa using hw, rfl⟩) (h1.2 hs (hdc.set hr'))
theorem wpOp_of {k : Nat} {o : Oper} (ho : ops[k]? = some o) {fuel : Nat} {listed : Array Bool} (hdc : Dc .any ops listed) (h : KL C true ops (QA C ops Q fx LS k fuel listed ims) ims L [false] [o] G) {a : Act} {w : World} (hf : Fit C.m G a) (hs : St C.B C.X ims L w) :
    wpOp C.P ops Q k (fun a' w' => (fx k = true ∨ St C.B C.X (LS ++ ims) [] w') ∧ anyG C.P .any ops Q (St C.B C.X (LS ++ ims) []) fx fuel listed a' w') a w := by
  have h1 := h a w hf hs
  unfold wpOp
  rw [ho]
  simp only
  unfold wpSeq at h1
  split at h1
  · rename_i hw
    rw [if_pos hw]
    left
    rcases h1 with ⟨v, hv, h2⟩ | ⟨_, h2⟩
    · unfold Oper.wp
      rw [hv w hs.w]
      exact ⟨h2.2.1, h2.2.2 hdc⟩
    · refine oper_wp_noPanic (fun a' w' h' => ?_) h2
      obtain ⟨S2, _, h3⟩ := h'
      exact ⟨h3.2.1, h3.2.2 hdc⟩
  · rename_i hw
    rw [if_neg hw]
    exact ⟨h1.2.1, h1.2.2 hdc⟩
theorem kt_a (k : Nat) {o : Oper} (ho : ops[k]? = some o) (hB : (Region.ready .any ops listed == [k]) = true)
    (h : KL C true ops (QA C ops Q fx LS k fuel (listed.setIfInBounds k true) ims) ims L [false] [o] G) : KT C ops Q fx LS (fuel + 1) listed ims L G := fun a w hf hs hdc => by
  have hr : Region.ready .any ops listed = [k] := by simpa using hB
  refine ⟨fun h' => absurd (hr ▸ h') (by simp), fun i hi => ?_⟩
  have hd2 := hdc.set hi
  rw [hr] at hi
  simp only [List.mem_singleton] at hi
  subst hi
  exact wpOp_of ho hd2 h hf hs
theorem kt_b (k1 k2 : Nat) {o1 o2 : Oper} (ho1 : ops[k1]? = some o1) (ho2 : ops[k2]? = some o2) (hB : (Region.ready .any ops listed == [k1, k2]) = true)
    (h1 : KL C true ops (QA C ops Q fx LS k1 fuel (listed.setIfInBounds k1 true) ims) ims L [false] [o1] G)
    (h2 : KL C true ops (QA C ops Q fx LS k2 fuel (listed.setIfInBounds k2 true) ims) ims L [false] [o2] G) : KT C ops Q fx LS (fuel + 1) listed ims L G := fun a w hf hs hdc => by
  have hr : Region.ready .any ops listed = [k1, k2] := by simpa using hB
  refine ⟨fun h' => absurd (hr ▸ h') (by simp), fun i hi => ?_⟩
  have hd2 := hdc.set hi
  rw [hr] at hi
  simp only [List.mem_cons, List.not_mem_nil, or_false] at hi
  rcases hi with rfl | rfl
  · exact wpOp_of ho1 hd2 h1 hf hs
  · exact wpOp_of ho2 hd2 h2 hf hs
theorem kt_end (hB : (Region.ready .any ops listed == []) = true) (h : KQ C ims L G (Q .normal)) : KT C ops Q fx LS 0 listed ims L G :=
  fun a w hf hs _ => ⟨by simpa using hB, h a w hf hs⟩
end laws
instance {α : Type} (a : α) (l m : List α) [h : In a l] : In a (l ++ m) := ⟨List.mem_append_left _ h.mem⟩
instance (priority := low) {α : Type} (a : α) (l m : List α) [h : In a m] : In a (l ++ m) := ⟨List.mem_append_right _ h.mem⟩
theorem at_box {b T off : Nat} {cs : List Value} {fz : Nat × Nat} : At (sing b (.cells cs.toArray T fz)) (.pointer (some ⟨b, off, none⟩)) (cs.drop off) := by
  have h : At (sing b (.cells cs.toArray T fz)) (.pointer (some ⟨b, 0, none⟩)) cs := At.sing (cs := cs.toArray)
  simpa using h.drop off
section early
variable {C : Cx} {dr : Bool} {ops : Array Oper} {Q : Post} {ims L : List Hp} {G : Env} {fl : List Bool} {rest : List Oper} {d ty : Nat} {pos : String} {af : Array Edge}
theorem kl_ldOe {E k n j : Nat} {H : Hp} {v p u : Value} {cs : List Value} {x : Operand} {T : Nat} [hT : OneC C.P T] (hx : ev G x = some p) (hp : PtrO v p j) (hv : OwnS E k H v n cs) [hi : In H ims] (hc : cs[j]? = some u)
    (h : KL C dr ops Q ims L fl.tail rest ((d, u) :: G)) (hlt : Nat.blt d C.n = true := by rfl) : KL C dr ops Q ims L fl (⟨some d, .load T x, ty, pos, af, none⟩ :: rest) G :=
  kl_y (fun r w hr hs => by
    obtain ⟨b, cur, rfl, rfl, hcur⟩ := hv.cell hp hc
    have hA := hs.im (sing b (.cells cur E (0, 0))) hi.mem b _ (sing_self _ _)
    have hcell : w.cell? ⟨b, j, none⟩ = some u := by simp [World.cell?, hA, hcur]
    simp [go_sem, hr _ _ hx, Instr.loadAt, loadVar, OneC.run, hcell]) h hlt
theorem kl_ldLIe {E i : Nat} {H K : Hp} {v p : Value} {xs : List Int} {x : Operand} {T : Nat} [hT : OneC C.P T] (hx : ev G x = some p) (hp : PtrL 1 v p i) (hv : OwnL E 1 H K IntV v xs) [hi : In H ims] (hc : i < xs.length)
    (h : KL C dr ops Q ims L fl.tail rest ((d, .int .i64 (xs.getD i 0)) :: G)) (hlt : Nat.blt d C.n = true := by rfl) : KL C dr ops Q ims L fl (⟨some d, .load T x, ty, pos, af, none⟩ :: rest) G := by
  obtain ⟨cs, u, h1, h2, h3⟩ := hv.at1 hc
  unfold IntV at h3
  simp at h3
  subst h3
  refine kl_ldOe hx hp h1 (by simpa using h2) ?_ hlt
  simpa [List.getD, hc] using h
end early
/-- A test that is written out. -/
theorem kc_condF {C : Cx} {Q : Post} {ims L : List Hp} {G : Env} {x y : Code} (h : KC C Q ims L y G) : KC C Q ims L (.cond (.const (.bool false)) x y) G := fun a w hf hs => by
  have he : a.eval (.const (.bool false)) = .bool false := rfl
  exact wpIn_cond he (h a w hf hs)
theorem kl_addN {C : Cx} {dr : Bool} {ops : Array Oper} {Q : Post} {ims L : List Hp} {G : Env} {fl : List Bool} {rest : List Oper} {d ty : Nat} {pos : String} {af : Array Edge} {x y : Operand} {T T2 m k : Nat}
    (hx : ev G x = some (.int .i64 (m : Int))) (hy : ev G y = some (.int .i64 (k : Int))) (hb : m + k ≤ 9223372036854775807) (h : KL C dr ops Q ims L fl.tail rest ((d, .int .i64 ((m + k : Nat) : Int)) :: G)) (hlt : Nat.blt d C.n = true := by rfl) :
    KL C dr ops Q ims L fl (⟨some d, .binOp .add T x y T2, ty, pos, af, none⟩ :: rest) G :=
  ad9 hx hy (by omega) (by rw [← Int.natCast_add]; exact h) hlt
end
section
/-- What a word on the world must bear while a call does what it likes to what is its own. -/
def JOk (j : (Nat → Prop) → World → Prop) : Prop :=
  ∀ {D D' : Nat → Prop} {w w' : World}, j D w → w.heap.size ≤ w'.heap.size → (∀ b, b < w.heap.size → ¬ D b → w'.heap[b]? = w.heap[b]?) → Io w w' → (∀ b, D' b → (D b ∨ w.heap.size ≤ b) ∧ b < w'.heap.size) → j D' w'
def Side.it (j : (Nat → Prop) → World → Prop) (ok : JOk j) : Side := ⟨0, fun _ => True, j, ok⟩
theorem cont_ex {D : Nat → Prop} {w : World} (h : ∀ b, D b → b < w.heap.size) : ∃ K : Hp, (∀ b, K b ≠ none ↔ D b) ∧ Agree K w := by
  classical
  refine ⟨fun b => if D b then w.heap[b]? else none, fun b => ?_, fun b o hb => ?_⟩
  · by_cases hd : D b
    · simp [hd, h b hd]
    · simp [hd]
  · by_cases hd : D b
    · simpa [hd] using hb
    · simp [hd] at hb

/-! ### The caller's state while the iterator runs -/
structure Car (B : World) (X : Side) (ims L : List Hp) (D : Nat → Prop) (w : World) : Prop where
  size : B.heap.size ≤ w.heap.size
  ext : ∀ b, b < B.heap.size → ¬ X.x b → w.heap[b]? = B.heap[b]?
  im : ∀ H ∈ ims, Agree H w
  own : ∀ H ∈ L, Agree H w ∧ (∀ b, H b ≠ none → B.heap.size ≤ b ∨ X.x b) ∧ ∀ I ∈ ims, Apart H I
  nd : L.Pairwise Apart
  io : Io B w
  j : X.j (fun b => dm B ims L b ∨ D b) w
  mrk : X.m ≤ w.heap.size
  lt : ∀ b, D b → B.heap.size ≤ b ∧ b < w.heap.size
  ap : ∀ b, D b → ∀ H, H ∈ ims ∨ H ∈ L → H b = none
section car
variable {B : World} {X : Side} {ims L : List Hp} {D D' : Nat → Prop} {w w' : World}
theorem St.lt (h : St B X ims L w) {b : Nat} (hb : dm B ims L b) : b < w.heap.size := dm_lt (B := B) h.im (fun H hH => (h.own H hH).1) hb
theorem Car.of (h : St B X ims L w) : Car B X ims L (fun _ => False) w :=
  ⟨h.size, h.ext, h.im, h.own, h.nd, h.io, X.ok h.j (Nat.le_refl _) (fun _ _ _ => rfl) (Io.refl _) (fun b hb => by
    rcases hb with hb | hb
    · exact ⟨.inl hb, h.lt hb⟩
    · exact hb.elim), h.mrk, fun _ h => h.elim, fun _ h => h.elim⟩
theorem Car.back (h : Car B X ims L (fun _ => False) w) : St B X ims L w :=
  ⟨h.size, h.ext, h.im, h.own, h.nd, h.io, X.ok h.j (Nat.le_refl _) (fun _ _ _ => rfl) (Io.refl _) (fun b hb => ⟨.inl (.inl hb), dm_lt (B := B) h.im (fun H hH => (h.own H hH).1) hb⟩), h.mrk⟩
theorem Car.ok (h : Car B X ims L D w) (hs : w.heap.size ≤ w'.heap.size) (he : ∀ b, b < w.heap.size → ¬ D b → w'.heap[b]? = w.heap[b]?) (hio : Io w w') (hd : ∀ b, D' b → (D b ∨ w.heap.size ≤ b) ∧ b < w'.heap.size) : Car B X ims L D' w' := by
  have keep : ∀ H, H ∈ ims ∨ H ∈ L → Agree H w → Agree H w' := fun H hH hA b o hb => by
    have hn : ¬ D b := fun hd => by rw [h.ap b hd H hH] at hb; cases hb
    rw [he b (hA.lt hb) hn]; exact hA b o hb
  refine ⟨Nat.le_trans h.size hs, fun b hb hx => ?_, fun H hH => keep H (.inl hH) (h.im H hH), fun H hH => ⟨keep H (.inr hH) (h.own H hH).1, (h.own H hH).2⟩, h.nd, h.io.trans hio, ?_, Nat.le_trans h.mrk hs, fun b hb => ?_, fun b hb H hH => ?_⟩
  · rw [he b (Nat.lt_of_lt_of_le hb h.size) (fun hd => by have := (h.lt b hd).1; omega)]; exact h.ext b hb hx
  · refine X.ok h.j hs (fun b hb hn => he b hb (fun hd => hn (.inr hd))) hio (fun b hb => ?_)
    rcases hb with hb | hb
    · exact ⟨.inl (.inl hb), Nat.lt_of_lt_of_le (dm_lt (B := B) h.im (fun H hH => (h.own H hH).1) hb) hs⟩
    · exact ⟨(hd b hb).1.imp .inr id, (hd b hb).2⟩
  · rcases (hd b hb).1 with h1 | h1
    · exact ⟨(h.lt b h1).1, (hd b hb).2⟩
    · exact ⟨Nat.le_trans h.size h1, (hd b hb).2⟩
  · rcases (hd b hb).1 with h1 | h1
    · exact h.ap b h1 H hH
    · cases hh : H b with
      | none => rfl
      | some o =>
        have hA : Agree H w := by
          rcases hH with hH | hH
          · exact h.im H hH
          · exact (h.own H hH).1
        exact absurd (hA.lt hh) (Nat.not_lt.2 h1)
theorem Car.enter (h : Car B X ims L D w) {K : Hp} (hK : ∀ b, K b ≠ none ↔ D b) (hA : Agree K w) : St B (X.mark w.heap.size) (K :: ims) L w :=
  ⟨h.size, h.ext, fun H hH => by
      cases hH with
      | head => exact hA
      | tail _ hH => exact h.im H hH,
   fun H hH => ⟨(h.own H hH).1, (h.own H hH).2.1, fun I hI => by
      cases hI with
      | head =>
        intro b
        by_cases hb : K b = none
        · exact .inr hb
        · exact .inl (h.ap b ((hK b).1 hb) H (.inr hH))
      | tail _ hI => exact (h.own H hH).2.2 I hI⟩, h.nd, h.io, X.ok h.j (Nat.le_refl _) (fun _ _ _ => rfl) (Io.refl _) (fun b hb => by
      rcases hb with hb | ⟨hB, H, hH, hb⟩
      · exact ⟨.inl (.inl (.inl hb)), dm_lt (B := B) h.im (fun H hH => (h.own H hH).1) (.inl hb)⟩
      · cases hH with
        | head => exact ⟨.inl (.inr ((hK b).1 hb)), (h.lt b ((hK b).1 hb)).2⟩
        | tail _ hH => exact ⟨.inl (.inl (.inr ⟨hB, H, hH, hb⟩)), dm_lt (B := B) h.im (fun H hH => (h.own H hH).1) (.inr ⟨hB, H, hH, hb⟩)⟩), Nat.le_refl _⟩
theorem Car.leave {K : Hp} {m : Nat} (h : St B (X.mark m) (K :: ims) L w) (hm : X.m ≤ m) (hK : ∀ b, K b ≠ none ↔ D b) (hB : ∀ b, D b → B.heap.size ≤ b) (hap : ∀ b, D b → ∀ H ∈ ims, H b = none) : Car B X ims L D w :=
  ⟨h.size, h.ext, fun H hH => h.im H (.tail _ hH), fun H hH => ⟨(h.own H hH).1, (h.own H hH).2.1, fun I hI => (h.own H hH).2.2 I (.tail _ hI)⟩, h.nd, h.io,
   X.ok h.j (Nat.le_refl _) (fun _ _ _ => rfl) (Io.refl _) (fun b hb => by
      have : dm B (K :: ims) L b := by
        rcases hb with (hb | ⟨hb, H, hH, hh⟩) | hb
        · exact .inl hb
        · exact .inr ⟨hb, H, .tail _ hH, hh⟩
        · exact .inr ⟨hB b hb, K, .head _, (hK b).2 hb⟩
      exact ⟨.inl this, h.lt this⟩), Nat.le_trans hm h.mrk,
   fun b hb => ⟨hB b hb, by
      cases hh : K b with
      | none => exact absurd hh ((hK b).2 hb)
      | some o => exact (h.im K (.head _)).lt hh⟩,
   fun b hb H hH => by
      rcases hH with hH | hH
      · exact hap b hb H hH
      · exact ((h.own H hH).2.2 K (.head _) b).resolve_right ((hK b).2 hb)⟩
end car

/-! ### The iterator's contract -/
/-- One call of yield, seen by the iterator: what is its own (K) lies as it lay. -/
def Yields (P : Program) (l : Nat) (ims : List Hp) (K : Hp) (v : Value) (j jx : World → Prop) (W : World) : Prop :=
  YieldAt (FW none) 0 P l #[v] W (fun e W' => W.heap.size ≤ W'.heap.size ∧ Io W W' ∧ Agree K W' ∧ (∀ I ∈ ims, Agree I W') ∧ ((e = .returned (.bool true) ∧ j W') ∨ (e = .returned (.bool false) ∧ jx W')))
/-- What the rounds give, n rounds gone: whatever the iterator's own memory, so long as v reads as the n-th list. -/
def Rounds (P : Program) (l : Nat) (ims : List Hp) (xs : List (List Int)) (J : Nat → (Nat → Prop) → World → Prop) (Jx : (Nat → Prop) → World → Prop) : Prop :=
  ∀ n, n < xs.length → ∀ D W K v, J n D W → (∀ b, K b ≠ none ↔ D b) → Agree K W → Ints K v (xs.getD n []) → Yields P l ims K v (J (n + 1) D) (Jx D) W
/-- Called at yield, the function yields xs, in order, and ends as soon as yield says so. -/
def ItSpec (P : Program) (g : Nat) (caps : List Value) (ims : List Hp) (xs : List (List Int)) : Prop :=
  ∀ (l : Nat) (J : Nat → (Nat → Prop) → World → Prop) (Jx : (Nat → Prop) → World → Prop), (∀ n, JOk (J n)) → JOk Jx → Rounds P l ims xs J Jx →
    ∀ W, (∀ I ∈ ims, Agree I W) → J 0 (fun _ => False) W →
      Calls P g (Value.func (.yield l) #[] #[] :: caps).toArray W (fun e W' => ∃ v, e = .returned v ∧ (J xs.length (fun _ => False) W' ∨ Jx (fun _ => False) W'))

/-! ### The caller's side -/
def rdy (l : Nat) (r : Loop) : Hp := sing l (.loop { r with state := .ready, pending := none })
def bsy (l : Nat) (r : Loop) : Hp := sing l (.loop { r with state := .busy, pending := none })
def dne (l : Nat) (r : Loop) (c : Code) : Hp := sing l (.loop { r with state := .done, pending := some c })
def dfb (b : Nat) : Hp := sing b (.deferred (some []))
/-- How a round's body may be left. -/
def RPost {A : Type} (B : World) (X : Side) (ims : List Hp) (Lf : A → List Hp) (inv : A → Prop) (invx : Code → A → Prop) (Hb : Hp) : Post
  | .normal, _, w => ∃ s, inv s ∧ St B X ims (Hb :: Lf s) w
  | .ret, _, w => ∃ s, invx .ret s ∧ St B X ims (Hb :: Lf s) w
  | .exit id, _, w => ∃ s, invx (.exit id) s ∧ St B X ims (Hb :: Lf s) w
  | _, _, _ => False
/-- Behind the assignment to the loop's variable: the round begins. -/
def AP (C : Cx) (l : Nat) (Qb : Post) (body : Code) : Post := fun e a w => e = .normal ∧ ∃ w₂, (Instr.beginRound l).run C.P w = .ok () w₂ ∧ body.wpIn (FW C.R) 0 C.P Qb a w₂
theorem St.put {B : World} {X : Side} {ims L L' : List Hp} {w : World} {b : Nat} {o o' : Obj} (h : St B X ims L w) [u : Upd (sing b o) (sing b o') L L'] : St B X ims L' (w.putObj b o') := by
  have hA : w.heap[b]? = some o := (h.own _ u.u.mem).1 b o (sing_self b o)
  have hlt : b < w.heap.size := (Array.getElem?_eq_some_iff.1 hA).1
  refine h.upd (H := sing b o) (H' := sing b o') (u := u) (by rw [World.putObj_size]; exact Nat.le_refl _) (fun k _ hk => World.putObj_heap_other (fun e => by subst e; simp at hk)) (fun k o2 hk => ?_) (fun k hk => .inl ?_) ⟨rfl, rfl⟩
  · obtain ⟨rfl, rfl⟩ := sing_some hk
    exact World.putObj_heap_same hlt
  · by_cases e : k = b
    · subst e; simp
    · simp [sing, e] at hk
section rounds
variable {C : Cx} {ims L L' : List Hp} {G : Env} {l : Nat} {r : Loop}
theorem kq_begin {Qb : Post} {body : Code} [u : Upd (rdy l r) (bsy l r) L L'] (h : KC C Qb ims L' body G) : KQ C ims L G (AP C l Qb body .normal) := fun a w hf hs => by
  have hl : w.heap[l]? = some (.loop { r with state := .ready, pending := none }) := (hs.own _ u.u.mem).1 _ _ (sing_self _ _)
  exact ⟨rfl, _, run_beginRound hl rfl, h a _ hf (hs.put (u := u))⟩
variable {A : Type} {ims0 : List Hp} {Lf : A → List Hp} {inv : A → Prop} {invx : Code → A → Prop} {Hb : Hp}
theorem kq_rend (s : A) (hs : inv s) {L0 : List Hp} (hl : L0 = Hb :: Lf s) (hi : AllIn ims0 ims) (hL : List.Sublist L0 L) : KQ C ims L G (RPost C.B C.X ims0 Lf inv invx Hb .normal) :=
  fun _ _ _ h => ⟨s, hs, by subst hl; exact h.weak (i := hi) hL⟩
end rounds

section caller
variable {A : Type} {P : Program} {n : Nat} {B : World} {X : Side} {Q : Post} {ims : List Hp} {G G0 : Env}
/-- for x := range g { .. }, in a function that is no round itself. -/
theorem kc_range {g : Operand} {p gf : Nat} {lb : Array Value} {ims' : List Hp} {xs : List (List Int)} {assign body : Code} (Lf : A → List Hp) (inv : Nat → A → Prop) (invx : Code → A → Prop) (s0 : A)
    (hg : ev G g = some (.func (.func gf) #[] lb)) [hb : FnC P gf] (hit : ItSpec P gf lb.toList ims' xs) [hi : AllIn ims' ims] (hp : Pick G G0) (hlt : Nat.blt p n = true) {L : List Hp} (hl : L = Lf s0) (h0 : inv 0 s0)
    (round : ∀ (l m D : Nat) (r : Loop) (Hit : Hp) (v : Value) (k : Nat) (s : A), k < xs.length → inv k s → Ints Hit v (xs.getD k []) →
      KC ⟨P, n, B, X.mark m, false, [], some l⟩ (AP ⟨P, n, B, X.mark m, false, [], some l⟩ l (RPost B (X.mark m) (Hit :: dfb D :: ims) Lf (inv (k + 1)) invx (bsy l r)) body)
        (Hit :: dfb D :: ims) (rdy l r :: Lf s) assign ((p, v) :: G0))
    (done : ∀ (D : Nat) (s : A), B.heap.size ≤ D → inv xs.length s → KQ ⟨P, n, B, X, false, [{ target := .collected D, args := #[] }], none⟩ (dfb D :: ims) (Lf s) G0 (Q .normal))
    (stop : ∀ (D : Nat) (c : Code) (s : A), B.heap.size ≤ D → invx c s → KC ⟨P, n, B, X, false, [{ target := .collected D, args := #[] }], none⟩ Q (dfb D :: ims) (Lf s) c G0) :
    KC ⟨P, n, B, X, false, [], none⟩ Q ims L (.rangeFunc g #[p] assign body) G := fun a w hf hs => by
  subst hl
  refine wpIn_rangeFunc (F := FW none) ?_
  intro fn _
  obtain ⟨r, hr⟩ : ∃ r : Loop, r = { state := .ready, pending := none, fn, tmps := a.tmps, params := #[p], assign, body, defers := w.heap.size } := ⟨_, rfl⟩
  have hrr : ({ r with state := .ready, pending := none } : Loop) = r := by rw [hr]
  have hs1 : St B X ims (dfb w.heap.size :: Lf s0) (w.alloc (.deferred (some []))) := hs.push (ext_alloc w _) (agree_alloc w _) (fresh_sing (B := w) (Nat.le_refl _))
  have hs2 : St B X (dfb w.heap.size :: ims) (Lf s0) (w.alloc (.deferred (some []))) := hs1.freeze
  have hsz : (w.alloc (.deferred (some []))).heap.size = w.heap.size + 1 := by simp
  obtain ⟨W1, hW1⟩ : ∃ W1, (w.alloc (.deferred (some []))).alloc (.loop r) = W1 := ⟨_, rfl⟩
  have hs3 : St B X (dfb w.heap.size :: ims) (rdy (w.heap.size + 1) r :: Lf s0) W1 := by
    rw [← hW1]
    unfold rdy
    rw [hrr]
    have := hs2.push (ext_alloc _ (.loop r)) (agree_alloc _ (.loop r)) (fresh_sing (B := w.alloc (.deferred (some []))) (Nat.le_refl _))
    rw [hsz] at this
    exact this
  have hgv : a.eval g = .func (.func gf) #[] lb := hf.ev hg
  refine ⟨w.heap.size + 1, [{ target := .collected w.heap.size, args := #[] }], W1, { target := .fn (.func gf) lb, args := #[.func (.yield (w.heap.size + 1)) #[] #[]] }, W1, gf,
    #[.func (.yield (w.heap.size + 1)) #[] #[]] ++ lb, W1, ?_, ?_, ?_, ?_, fun e => (by cases e), ?_⟩
  · rw [← hW1, hr]; exact run_enterLoop_outer _ _ _ _ _
  · simp only [resolve, hgv]
    simp [go_sem]
  · intro f' _; trivial
  · simp [invoke, go_sem, hb.run]
  · have hargs : (#[Value.func (.yield (w.heap.size + 1)) #[] #[]] ++ lb) = (Value.func (.yield (w.heap.size + 1)) #[] #[] :: lb.toList).toArray := by
      apply Array.ext'; simp
    rw [hargs]
    refine calls_FW ((hit (w.heap.size + 1)
      (fun k D W => ∃ s, inv k s ∧ Car B X (dfb w.heap.size :: ims) (rdy (w.heap.size + 1) r :: Lf s) D W)
      (fun D W => ∃ c s, invx c s ∧ Car B X (dfb w.heap.size :: ims) (dne (w.heap.size + 1) r c :: Lf s) D W)
      (fun k {D D' w w'} h hs he hio hd => by obtain ⟨s, h1, h2⟩ := h; exact ⟨s, h1, h2.ok hs he hio hd⟩)
      (fun {D D' w w'} h hs he hio hd => by obtain ⟨c, s, h1, h2⟩ := h; exact ⟨c, s, h1, h2.ok hs he hio hd⟩) ?_ W1 (fun I hI => hs3.im I (.tail _ (hi.all I hI))) ⟨s0, h0, Car.of hs3⟩).mono ?_)
    · -- a round
      rintro k hk D W K v ⟨s, hinv, hc⟩ hK hA hv
      have hst := hc.enter hK hA
      have hl : W.heap[w.heap.size + 1]? = some (.loop r) := by
        have := (hst.own _ (.head _)).1 (w.heap.size + 1) (.loop { r with state := .ready, pending := none }) (sing_self _ _)
        rw [hrr] at this; exact this
      have hy := run_yield (P := P) (args := #[v]) hl (by rw [hr]; rfl)
      rw [show r.params = #[p] by rw [hr], show r.fn = fn by rw [hr], show r.assign = assign by rw [hr], show r.body = body by rw [hr], show r.tmps = a.tmps by rw [hr]] at hy
      refine ⟨fn, _, assign, body, hy, roundIn_of_wpIn (F := FW none) trivial ?_⟩
      have hfit : Fit (n, []) ((p, v) :: G0) { tmps := (((#[p] : Array Tmp).zip #[v]).foldl (fun tmps (t, a) => tmps.setIfInBounds t a) a.tmps), defers := [] } := by
        have h1 : Fit (n, []) G0 { tmps := a.tmps, defers := [] } := by
          have := hp.fit hf
          exact ⟨rfl, this.size, this.get⟩
        have h2 := h1.put (d := p) (v := v) (by simpa [Nat.blt_eq] using hlt)
        have e : ((#[p] : Array Tmp).zip #[v]) = #[(p, v)] := by simp
        rw [e]
        simpa [Act.put] using h2
      refine wpIn_mono (round (w.heap.size + 1) W.heap.size w.heap.size r K v k s hk hinv hv _ W hfit hst) ?_
      rintro e a₁ w₁ ⟨rfl, w₂, hbeg, hbody⟩
      refine ⟨w₂, hbeg, wpIn_mono hbody ?_⟩
      have hB : ∀ b, D b → B.heap.size ≤ b := fun b hb => (hc.lt b hb).1
      have hap : ∀ b, D b → ∀ H ∈ (dfb w.heap.size :: ims), H b = none := fun b hb H hH => hc.ap b hb H (.inl hH)
      have fin : ∀ (jump : Option Code) (s' : A) (W3 : World), St B (X.mark W.heap.size) (K :: dfb w.heap.size :: ims) (bsy (w.heap.size + 1) r :: Lf s') W3 →
          ∃ W4, (Instr.endRound (w.heap.size + 1) jump).run P W3 = .ok (.bool jump.isNone) W4 ∧ W.heap.size ≤ W4.heap.size ∧ Io W W4 ∧ Agree K W4 ∧ (∀ I ∈ ims', Agree I W4) ∧
            Car B X (dfb w.heap.size :: ims) (sing (w.heap.size + 1) (.loop { r with state := if jump.isNone then .ready else .done, pending := jump }) :: Lf s') D W4 := fun jump s' W3 h3 => by
        have hl3 : W3.heap[w.heap.size + 1]? = some (.loop { r with state := .busy, pending := none }) := (h3.own _ (.head _)).1 _ _ (sing_self _ _)
        have h4 : St B (X.mark W.heap.size) (K :: dfb w.heap.size :: ims) (sing (w.heap.size + 1) (.loop { r with state := if jump.isNone then .ready else .done, pending := jump }) :: Lf s') _ := h3.put (u := ⟨.head _⟩)
        refine ⟨_, run_endRound (P := P) jump hl3, h4.mrk, ⟨h4.io.1.trans hst.io.1.symm, h4.io.2.trans hst.io.2.symm⟩, h4.im K (.head _), fun I hI => h4.im I (.tail _ (.tail _ (hi.all I hI))), ?_⟩
        exact Car.leave h4 hc.mrk hK hB hap
      rintro e a3 W3 hpost
      cases e with
      | normal =>
        obtain ⟨s', hi', h3⟩ := hpost
        obtain ⟨W4, h1, h2, h3', h4, h5, h6⟩ := fin none s' W3 h3
        exact ⟨_, W4, h1, h2, h3', h4, h5, .inl ⟨rfl, s', hi', h6⟩⟩
      | ret =>
        obtain ⟨s', hi', h3⟩ := hpost
        obtain ⟨W4, h1, h2, h3', h4, h5, h6⟩ := fin (some .ret) s' W3 h3
        exact ⟨_, W4, h1, h2, h3', h4, h5, .inr ⟨rfl, .ret, s', hi', h6⟩⟩
      | exit id =>
        obtain ⟨s', hi', h3⟩ := hpost
        obtain ⟨W4, h1, h2, h3', h4, h5, h6⟩ := fin (some (.exit id)) s' W3 h3
        exact ⟨_, W4, h1, h2, h3', h4, h5, .inr ⟨rfl, .exit id, s', hi', h6⟩⟩
      | goto t => exact hpost.elim
      | panic ch => exact hpost.elim
      | outgrown => exact hpost.elim
    · -- behind the iterator
      have hfit : Fit (n, [{ target := .collected w.heap.size, args := #[] }]) G0 { a with defers := [{ target := .collected w.heap.size, args := #[] }] ++ a.defers } := by
        have := hp.fit hf
        exact ⟨by simp [hf.defers, Cx.m], this.size, this.get⟩
      rintro e W2 ⟨v, rfl, (⟨s, hi', hc⟩ | ⟨c, s, hi', hc⟩)⟩
      · have hst := hc.back
        have hl : W2.heap[w.heap.size + 1]? = some (.loop { r with state := .ready, pending := none }) := (hst.own _ (.head _)).1 _ _ (sing_self _ _)
        refine ⟨none, _, run_endLoop (P := P) hl (by simp), ?_⟩
        have h4 : St B X (dfb w.heap.size :: ims) (sing (w.heap.size + 1) (.loop { r with state := .exhausted, pending := none }) :: Lf s) _ := hst.put (u := ⟨.head _⟩)
        exact done _ s hs.size hi' _ _ hfit h4.dropL
      · have hst := hc.back
        have hl : W2.heap[w.heap.size + 1]? = some (.loop { r with state := .done, pending := some c }) := (hst.own _ (.head _)).1 _ _ (sing_self _ _)
        refine ⟨some c, _, run_endLoop (P := P) hl (by simp), ?_⟩
        have h4 : St B X (dfb w.heap.size :: ims) (sing (w.heap.size + 1) (.loop { r with state := .exhausted, pending := some c }) :: Lf s) _ := hst.put (u := ⟨.head _⟩)
        exact stop _ c s hs.size hi' _ _ hfit h4.dropL
end caller
end
section
def slotRun (tmps : Array Value) : ResultVar → Sem Value
  | .tmp t => pure (tmps.getD t undef)
  | .cell a t => do loadVar t (← asAddr (tmps.getD a undef))
/-- What a result's slot holds. -/
def RS (P : Program) (L : List Hp) (G : Env) (s : ResultVar) (v : Value) : Prop :=
  ∀ {n : Nat × List Deferred} {B : World} {X : Side} {ims : List Hp} (a : Act) (w : World), Fit n G a → St B X ims L w → (slotRun a.tmps s).run P w = .ok v w
theorem rs_tmp {P : Program} {L : List Hp} {G : Env} {t : Nat} {v : Value} (hv : look t G = some v) : RS P L G (.tmp t) v := fun a w hf _ => by
  simp only [slotRun, Sem.run_pure, (hf.get t v hv).2]
theorem rs_agg {P : Program} {L : List Hp} {G : Env} {c T b E k : Nat} {cs : List Value} {F : List Value → List Hp} [hT : AggC P T k] [hF : BoxF b cs E L F] (hv : look c G = some (.pointer (some ⟨b, 0, none⟩))) (hk : Nat.beq cs.length k = true) :
    RS P L G (.cell c T) (.agg cs.toArray) := fun a w hf hs => by
  have hA := (hs.own _ (hF.u cs).mem).1
  have hat : At (sing b (.cells cs.toArray E (0, 0))) (.pointer (some ⟨b, 0, none⟩)) cs := At.sing (cs := cs.toArray)
  have hc := loadCells_at (P := P) hA hat
  rw [Nat.eq_of_beq_eq_true hk] at hc
  have h1 : (loadVar T ⟨b, 0, none⟩).run P w = .ok (.agg cs.toArray) w := by
    simp only [loadVar, Sem.run_bind, Sem.run_pure, Result.andThen_ok, AggC.run, sizeOf_run hT.i, hc, if_true]
  have h2 : a.tmps.getD c undef = .pointer (some ⟨b, 0, none⟩) := (hf.get c _ hv).2
  simp only [slotRun, h2, asAddr, Sem.run_bind, Sem.run_pure, Result.andThen_ok, h1]
def RSs (P : Program) (L : List Hp) (G : Env) (fn : Func) (v : Value) : Prop :=
  ∀ {n : Nat × List Deferred} {B : World} {X : Side} {ims : List Hp} (a : Act) (w : World), Fit n G a → St B X ims L w → (results fn a.tmps).run P w = .ok v w
theorem results_eq (fn : Func) (tmps : Array Value) : results fn tmps = (do
    let vs ← fn.results.mapM (slotRun tmps)
    pure (if h : vs.size = 1 then vs[0] else .tuple vs)) := by
  have e : (fun s : ResultVar => match s with
    | .tmp t => (pure (tmps.getD t undef) : Sem Value)
    | .cell a t => do loadVar t (← asAddr (tmps.getD a undef))) = slotRun tmps := by
    funext s; cases s <;> rfl
  rw [← e]; rfl
theorem rss1 {P : Program} {L : List Hp} {G : Env} {fn : Func} {s : ResultVar} {v : Value} (hr : fn.results = #[s]) (h : RS P L G s v) : RSs P L G fn v := fun a w hf hs => by
  have h1 := h a w hf hs
  rw [results_eq, hr]
  simp [h1]
theorem rss2 {P : Program} {L : List Hp} {G : Env} {fn : Func} {s t : ResultVar} {u v : Value} (hr : fn.results = #[s, t]) (h : RS P L G s u) (k : RS P L G t v) : RSs P L G fn (.tuple #[u, v]) := fun a w hf hs => by
  have h1 := h a w hf hs
  have h2 := k a w hf hs
  rw [results_eq, hr]
  simp [h1, h2]

/-- The mark of a loop over a function is shut. -/
theorem St.shut {B : World} {X : Side} {ims L : List Hp} {w : World} {D : Nat} (h : St B X ims L w) [i : In (dfb D) ims] (hB : B.heap.size ≤ D) : St B X [] L (w.putObj D (.deferred none)) := by
  have hA : w.heap[D]? = some (.deferred (some [])) := h.im _ i.mem D _ (sing_self _ _)
  have hD : dm B ims L D := .inr ⟨hB, dfb D, i.mem, by simp [dfb]⟩
  have hother : ∀ k, k ≠ D → (w.putObj D (.deferred none)).heap[k]? = w.heap[k]? := fun k hk => World.putObj_heap_other hk
  refine h.turn (by rw [World.putObj_size]; exact Nat.le_refl _) (fun b _ hn => hother b (fun e => hn (e ▸ hD))) ⟨rfl, rfl⟩ (fun b hb => .inl ?_) (fun b hb hx => ?_) (fun _ h => by cases h) (fun K hK => ⟨fun b o hb => ?_, (h.own K hK).2.1, fun _ h => by cases h⟩) h.nd
  · rcases hb with hb | ⟨_, _, hb, _⟩
    · exact .inl hb
    · cases hb
  · rw [hother b (by omega)]; exact h.ext b hb hx
  · have hne : b ≠ D := fun e => by
      subst e
      rcases (h.own K hK).2.2 _ i.mem b with h1 | h1
      · rw [h1] at hb; cases hb
      · simp [dfb] at h1
    rw [hother b hne]; exact (h.own K hK).1 b o hb
/-- The marks that are pushed: none, or one that is at hand. -/
inductive DfOk (B : World) (ims : List Hp) : List Deferred → Prop
  | none : DfOk B ims []
  | one {D : Nat} (hB : B.heap.size ≤ D) (hi : dfb D ∈ ims) : DfOk B ims [{ target := .collected D, args := #[] }]
theorem df1 {B : World} {ims : List Hp} {D : Nat} (hB : B.heap.size ≤ D) [i : In (dfb D) ims] : DfOk B ims [{ target := .collected D, args := #[] }] := .one hB i.mem
section rets
variable {P : Program} {n : Nat} {B : World} {ims L : List Hp} {G : Env} {fn : Func} {phi : Hp → Value → Prop} {df : List Deferred}
theorem kq_retR {v : Value} (hr : RSs P L G fn v) (H : Hp) [hg : Got H ims L] (hf : Fr B H) (hp : phi H v) (hd : DfOk B ims df) :
    KQ ⟨P, n, B, noS, false, df, none⟩ ims L G (bodyPostM (FW none) 0 P fn (Res B phi) .ret) := fun a w hF hS => by
  show LeavesInM (FW none) 0 P fn a.tmps (Res B phi) a.defers .returning w
  cases hd with
  | none =>
    rw [show a.defers = [] from hF.defers]
    exact ⟨v, hr a w hF hS, hS.toExt, H, hg.g hS, hf, hp⟩
  | one hB hi =>
    rename_i D
    rw [show a.defers = [{ target := .collected D, args := #[] }] from hF.defers]
    have i : In (dfb D) ims := ⟨hi⟩
    have hS2 := hS.shut hB
    have hA : w.heap[D]? = some (.deferred (some [])) := hS.im _ hi D _ (sing_self _ _)
    refine ⟨by simp, .inl ⟨D, _, rfl, run_takeDeferred hA, v, hr a _ hF hS2, hS2.toExt, H, fun b o hb => ?_, hf, hp⟩⟩
    have hAH := hg.g hS
    have hne : b ≠ D := fun e => by
      subst e
      obtain ⟨cs, T, e⟩ := hf.2 b o hb
      have := hAH b o hb
      rw [hA] at this; subst e; cases this
    rw [World.putObj_heap_other hne]; exact hAH b o hb
theorem spec_ofR {f : FuncId} {c : Code} {vs : List Value} (hf : P.funcs[f]? = some fn) (hb : fn.body = some c) (hn : fn.ntmps = n) (hle : Nat.ble vs.length n = true)
    (h : ∀ B, KC ⟨P, n, B, noS, false, [], none⟩ (bodyPostM (FW none) 0 P fn (Res B phi)) ims [] c (pars 0 vs)) : Spec P f vs ims phi := fun w hA => by
  refine calls_of_FW (R := none) (n := 0) (callsIn_of_wp_marks hf hb trivial ?_ rfl)
  rw [hn]
  exact h w _ w (fit_pars (Nat.le_of_ble_eq_true hle)) (St.init hA)
end rets
end
section
theorem rss3 {P : Program} {L : List Hp} {G : Env} {fn : Func} {s t u : ResultVar} {a b c : Value} (hr : fn.results = #[s, t, u]) (h1 : RS P L G s a) (h2 : RS P L G t b) (h3 : RS P L G u c) : RSs P L G fn (.tuple #[a, b, c]) := fun r w hf hs => by
  have k1 := h1 r w hf hs
  have k2 := h2 r w hf hs
  have k3 := h3 r w hf hs
  rw [results_eq, hr]
  simp [k1, k2, k3]
end
section
def ByteC (vs : List Value) (n : Int) : Prop := vs = [.int .u8 n] ∧ 0 ≤ n ∧ n < 256
abbrev Bytes (H : Hp) (v : Value) (xs : List Int) : Prop := Sl H 1 ByteC v xs
section ops
variable {C : Cx} {dr : Bool} {ops : Array Oper} {Q : Post} {ims L : List Hp} {G : Env} {fl : List Bool} {rest : List Oper} {d ty : Nat} {pos : String} {af : Array Edge}
theorem kl_ixY {H : Hp} {v : Value} {xs : List Int} {x y : Operand} {i : Int} {T E by' : Nat} {z : Value} [hT : IsSlice C.P T E 1 by' z]
    (hx : ev G x = some v) (hy : ev G y = some (.int .i64 i)) (hv : Bytes H v xs) (h0 : 0 ≤ i) (h1 : i < xs.length)
    (h : ∀ p, At H p [.int .u8 (xs.getD i.toNat 0)] → 0 ≤ xs.getD i.toNat 0 ∧ xs.getD i.toNat 0 < 256 → KL C dr ops Q ims L fl.tail rest ((d, p) :: G)) (hlt : Nat.blt d C.n = true := by rfl) :
    KL C dr ops Q ims L fl (⟨some d, .indexAddr T x y, ty, pos, af, none⟩ :: rest) G :=
  kl_ix hx hy hv h0 h1 (fun p vs hR hat => by
    obtain ⟨e, hb⟩ := hR 0
    subst e
    exact h p hat hb) hlt
theorem kl_cvi {T T' : Nat} {m : Int} {κ2 : IntKind} {x : Operand} [hT : IsInt C.P T' .i64] [hS : IsInt C.P T κ2] (hx : ev G x = some (.int κ2 m)) (hb : -9223372036854775808 ≤ m ∧ m ≤ 9223372036854775807) (h : KL C dr ops Q ims L fl.tail rest ((d, .int .i64 m) :: G)) (hlt : Nat.blt d C.n = true := by rfl) :
    KL C dr ops Q ims L fl (⟨some d, .convert T T' x, ty, pos, af, none⟩ :: rest) G := kl_cv hx (by
      have e : IntKind.i64.wrap m = m := by rw [IntKind.wrap_i64]; omega
      rw [e]; exact h) hlt
end ops
theorem ixor_le {a b : Int} (ha : 0 ≤ a ∧ a < 2 ^ 63) (hb : 0 ≤ b ∧ b < 2 ^ 63) : 0 ≤ ixor a b ∧ ixor a b < 2 ^ 63 := by
  obtain ⟨ha, ha'⟩ := ha
  obtain ⟨hb, hb'⟩ := hb
  obtain ⟨a, rfl⟩ := Int.eq_ofNat_of_zero_le ha
  obtain ⟨b, rfl⟩ := Int.eq_ofNat_of_zero_le hb
  have h1 : a < 2 ^ 63 := by exact_mod_cast ha'
  have h2 : b < 2 ^ 63 := by exact_mod_cast hb'
  have h3 : a % 2 ^ 64 = a := Nat.mod_eq_of_lt (Nat.lt_of_lt_of_le h1 (by decide))
  have h4 : b % 2 ^ 64 = b := Nat.mod_eq_of_lt (Nat.lt_of_lt_of_le h2 (by decide))
  have h5 := Nat.xor_lt_two_pow h1 h2
  have e : ixor (a : Int) (b : Int) = ((a ^^^ b : Nat) : Int) := by
    have e3 : ixor (a : Int) (b : Int) = IntKind.i64.wrap (((BitVec.ofInt 64 (a : Int)) ^^^ (BitVec.ofInt 64 (b : Int))).toNat : Int) := rfl
    rw [e3, BitVec.ofInt_natCast, BitVec.ofInt_natCast, BitVec.toNat_xor, BitVec.toNat_ofNat, BitVec.toNat_ofNat, h3, h4]
    exact wraps_i64 _ (Int.natCast_nonneg _) (by exact_mod_cast h5)
  rw [e]
  exact ⟨Int.natCast_nonneg _, by exact_mod_cast h5⟩
theorem tmod_in {m k : Int} (hm : 0 ≤ m) (hk : 0 < k) : 0 ≤ m.tmod k ∧ m.tmod k < k := ⟨Int.tmod_nonneg _ hm, Int.tmod_lt_of_pos _ hk⟩
theorem tdiv_in {m k : Int} (hm : 0 ≤ m) (hk : 0 < k) : 0 ≤ m.tdiv k ∧ m.tdiv k ≤ m := by
  obtain ⟨a, rfl⟩ := Int.eq_ofNat_of_zero_le hm
  obtain ⟨b, rfl⟩ := Int.eq_ofNat_of_zero_le (Int.le_of_lt hk)
  rw [← Int.ofNat_tdiv]
  exact ⟨Int.natCast_nonneg _, by exact_mod_cast Nat.div_le_self a b⟩
/-! A struct that is written out, its parts of one cell each. -/
class StrC (P : Program) (T : Nat) (offs szs : outParam (List Nat)) (zs : outParam (List Value)) : Prop where
  z : (P.info? T).map (·.zero) = some (some (.agg zs.toArray))
  u : ∃ fs : Array Field, P.underlying T = some (.struct fs) ∧ ∀ w, (fs.mapM (fun f => do pure (f.offset, ← Go.sizeOf f.type) : Field → Sem (Nat × Nat))).run P w = .ok (offs.zip szs).toArray w
theorem places2 {P : Program} {t0 o0 s0 t1 o1 s1 : Nat} {f0 f1 : Field} (e0 : f0.type = t0) (e1 : f1.type = t1) (p0 : f0.offset = o0) (p1 : f1.offset = o1) (h0 : (P.info? t0).map (·.size) = some s0) (h1 : (P.info? t1).map (·.size) = some s1) (w : World) :
    ((#[f0, f1] : Array Field).mapM (fun f => do pure (f.offset, ← Go.sizeOf f.type) : Field → Sem (Nat × Nat))).run P w = .ok #[(o0, s0), (o1, s1)] w := by
  subst e0 p0 e1 p1
  simp [sizeOf_run h0 w, sizeOf_run h1 w]
theorem places3 {P : Program} {t0 o0 s0 t1 o1 s1 t2 o2 s2 : Nat} {f0 f1 f2 : Field} (e0 : f0.type = t0) (e1 : f1.type = t1) (e2 : f2.type = t2) (p0 : f0.offset = o0) (p1 : f1.offset = o1) (p2 : f2.offset = o2) (h0 : (P.info? t0).map (·.size) = some s0) (h1 : (P.info? t1).map (·.size) = some s1) (h2 : (P.info? t2).map (·.size) = some s2) (w : World) :
    ((#[f0, f1, f2] : Array Field).mapM (fun f => do pure (f.offset, ← Go.sizeOf f.type) : Field → Sem (Nat × Nat))).run P w = .ok #[(o0, s0), (o1, s1), (o2, s2)] w := by
  subst e0 p0 e1 p1 e2 p2
  simp [sizeOf_run h0 w, sizeOf_run h1 w, sizeOf_run h2 w]
theorem places4 {P : Program} {t0 o0 s0 t1 o1 s1 t2 o2 s2 t3 o3 s3 : Nat} {f0 f1 f2 f3 : Field} (e0 : f0.type = t0) (e1 : f1.type = t1) (e2 : f2.type = t2) (e3 : f3.type = t3) (p0 : f0.offset = o0) (p1 : f1.offset = o1) (p2 : f2.offset = o2) (p3 : f3.offset = o3) (h0 : (P.info? t0).map (·.size) = some s0) (h1 : (P.info? t1).map (·.size) = some s1) (h2 : (P.info? t2).map (·.size) = some s2) (h3 : (P.info? t3).map (·.size) = some s3) (w : World) :
    ((#[f0, f1, f2, f3] : Array Field).mapM (fun f => do pure (f.offset, ← Go.sizeOf f.type) : Field → Sem (Nat × Nat))).run P w = .ok #[(o0, s0), (o1, s1), (o2, s2), (o3, s3)] w := by
  subst e0 p0 e1 p1 e2 p2 e3 p3
  simp [sizeOf_run h0 w, sizeOf_run h1 w, sizeOf_run h2 w, sizeOf_run h3 w]
theorem places5 {P : Program} {t0 o0 s0 t1 o1 s1 t2 o2 s2 t3 o3 s3 t4 o4 s4 : Nat} {f0 f1 f2 f3 f4 : Field} (e0 : f0.type = t0) (e1 : f1.type = t1) (e2 : f2.type = t2) (e3 : f3.type = t3) (e4 : f4.type = t4) (p0 : f0.offset = o0) (p1 : f1.offset = o1) (p2 : f2.offset = o2) (p3 : f3.offset = o3) (p4 : f4.offset = o4) (h0 : (P.info? t0).map (·.size) = some s0) (h1 : (P.info? t1).map (·.size) = some s1) (h2 : (P.info? t2).map (·.size) = some s2) (h3 : (P.info? t3).map (·.size) = some s3) (h4 : (P.info? t4).map (·.size) = some s4) (w : World) :
    ((#[f0, f1, f2, f3, f4] : Array Field).mapM (fun f => do pure (f.offset, ← Go.sizeOf f.type) : Field → Sem (Nat × Nat))).run P w = .ok #[(o0, s0), (o1, s1), (o2, s2), (o3, s3), (o4, s4)] w := by
  subst e0 p0 e1 p1 e2 p2 e3 p3 e4 p4
  simp [sizeOf_run h0 w, sizeOf_run h1 w, sizeOf_run h2 w, sizeOf_run h3 w, sizeOf_run h4 w]
def bput (offs szs : List Nat) : List Value → List (Nat × Value) → Option (List Value)
  | cs, [] => some cs
  | cs, (i, v) :: r => match (offs.zip szs)[i]? with
    | some (o, 1) => bif Nat.blt o cs.length then bput offs szs (cs.set o v) r else none
    | _ => none
theorem fill_bput {offs szs : List Nat} : ∀ {pv : List (Nat × Value)} {cs us : List Value}, (∀ p ∈ pv, p.2.cells = #[p.2]) → bput offs szs cs pv = some us → Instr.fill ((offs.zip szs).toArray[·]?) cs.toArray pv = some us.toArray
  | [], cs, us, _, h => by
    simp only [bput, Option.some.injEq] at h
    subst h; rfl
  | (i, v) :: r, cs, us, hu, h => by
    simp only [bput] at h
    split at h
    · rename_i o hi
      cases hb : Nat.blt o cs.length with
      | false => rw [hb] at h; cases h
      | true =>
        rw [hb] at h
        have ho : o < cs.length := by simpa [Nat.blt_eq] using hb
        have hv : v.cells = #[v] := hu _ (.head _)
        have ih := fill_bput (fun p hp => hu p (.tail _ hp)) h
        unfold Instr.fill
        simp only [List.getElem?_toArray, hi, hv]
        simp only [List.size_toArray, List.length_cons, List.length_nil, ne_eq, not_true_eq_false, decide_false, Bool.false_or]
        rw [if_neg (by simp; omega)]
        have e : (#[v].zipIdx.foldl (fun cs (x : Value × Nat) => cs.setIfInBounds (o + x.2) x.1) cs.toArray) = (cs.set o v).toArray := by
          simp
        have e2 : (#[v].zipIdx.foldl (fun cs (c, j) => cs.setIfInBounds (o + j) c) cs.toArray) = (cs.set o v).toArray := e
        rw [e2]; simp only [List.getElem?_toArray] at ih; exact ih
    · cases h
theorem cp_nil : ∀ p ∈ ([] : List (Nat × Value)), p.2.cells = #[p.2] := fun _ h => by cases h
theorem cp {i : Nat} {v : Value} {r : List (Nat × Value)} (h : v.cells = #[v]) (t : ∀ p ∈ r, p.2.cells = #[p.2]) : ∀ p ∈ (i, v) :: r, p.2.cells = #[p.2] := fun p hp => by
  cases hp with
  | head => exact h
  | tail _ hp => exact t p hp
section blds
variable {C : Cx} {dr : Bool} {ops : Array Oper} {Q : Post} {ims L : List Hp} {G : Env} {fl : List Bool} {rest : List Oper} {d ty : Nat} {pos : String} {af : Array Edge}
theorem kl_bd {T : Nat} {offs szs : List Nat} {zs us : List Value} [hS : StrC C.P T offs szs zs] {ps : List (Nat × Operand)} {pv : List (Nat × Value)} (hp : evp G ps = some pv) (hu : ∀ p ∈ pv, p.2.cells = #[p.2]) (hb : bput offs szs zs pv = some us)
    (h : KL C dr ops Q ims L fl.tail rest ((d, .agg us.toArray) :: G)) (hlt : Nat.blt d C.n = true := by rfl) : KL C dr ops Q ims L fl (⟨some d, .build T ps.toArray, ty, pos, af, none⟩ :: rest) G :=
  kl_y (fun r w hr _ => by
    obtain ⟨fs, h1, h2⟩ := hS.u
    have hz := zeroValue_run (P := C.P) hS.z w
    have hff := fill_bput hu hb
    simp only [execOp, Instr.build, Sem.run_bind, List.map_toArray, evp_run hr hp, hz, run_underlying h1, Result.andThen_ok, h2 w]
    have e : (Value.agg zs.toArray).cells = zs.toArray := rfl
    rw [e, hff]
    rfl) h hlt
theorem fill_five {a b c d e : Value} : ∀ {cells : Array Value}, cells.size = 5 → Instr.fill (fun i => some (i * 5, 5)) cells [(0, .agg #[a, b, c, d, e])] = some #[a, b, c, d, e]
  | ⟨[c0, c1, c2, c3, c4]⟩, _ => rfl
/-- One constraint in a list that is written out: fixed memory. -/
theorem kl_bsK {T E by' : Nat} {z a b c e f : Value} [hT : IsSlice C.P T E 5 by' z] {ps : List (Nat × Operand)} (hp : evp G ps = some [(0, .agg #[a, b, c, e, f])])
    (h : ∀ v H, Fr C.B H → Rd H 5 v 1 [a, b, c, e, f] → KL C dr ops Q (H :: ims) L fl.tail rest ((d, v) :: G)) (hlt : Nat.blt d C.n = true := by rfl) (hfl : fl.headD false = false := by rfl) :
    KL C dr ops Q ims L fl (⟨some d, .buildSlice T 1 ps.toArray, ty, pos, af, none⟩ :: rest) G := by
  refine kl_newI (v := fun b => .slice (some ⟨b, 0, none⟩) 1 1) (o := .cells #[a, b, c, e, f] E) (fun r w hr => ?_) (fun q hb => h _ _ (fr_sing hb) ?_) hlt hfl
  · have hps := evp_run hr hp
    have hz := hT.z
    have hzv : (zeroValue E).run C.P w = .ok z w := zeroValue_run (by obtain ⟨i, hi, hz', _⟩ := hT.info; simp [hi, hz']) w
    have key : (Instr.buildSlice T 1 [((0 : Nat), Value.agg #[a, b, c, e, f])].toArray).run C.P w = .ok (.slice (some ⟨w.heap.size, 0, none⟩) 1 1) (w.alloc (.cells #[a, b, c, e, f] E)) := by
      have hff := fill_five (a := a) (b := b) (c := c) (d := e) (e := f) (cells := (Array.range (1 * 5)).map (z.cells[· % z.cells.size]!)) (by simp)
      simp only [Instr.buildSlice, Sem.run_bind, run_underlying hT.u, Result.andThen_ok, sizeOf_run hT.size]
      rw [if_neg (by decide), if_neg (by decide)]
      simp only [Sem.run_bind, hzv, Result.andThen_ok, Sem.run_pure, hff]
      rfl
    simp only [execOp, Sem.run_bind, List.map_toArray, hps, key, Result.andThen_ok, Sem.run_pure]
  · exact ⟨some ⟨q, 0, none⟩, 1, rfl, by simp, fun j u hj => ⟨q, 0, #[a, b, c, e, f], E, (0, 0), rfl, by simp, by simpa using hj⟩⟩
theorem kt_frz (H : Hp) {fx : Nat → Bool} {LS : List Hp} {fuel : Nat} {listed : Array Bool} {L' : List Hp} [r : RemH H L L'] (h : KT C ops Q fx LS fuel listed (H :: ims) L' G) : KT C ops Q fx LS fuel listed ims L G := fun a w hf hs hdc =>
  anyG_mono (fun _ hu => St.ims (i := allIn_low ⟨fun _ ha => .tail _ ha⟩) hu) _ _ _ _ (h a w hf hs.rem hdc)
/-- An empty list that is written out. -/
theorem kl_bs0 {A : Type} (R : Rel A) {T E by' : Nat} {z : Value} [hT : IsSlice C.P T E 1 by' z] {ps : List (Nat × Operand)} (hp : evp G ps = some [])
    (h : ∀ v H, Fr C.B H → OwnL E 1 H noHp R v [] → KL C dr ops Q ims (H :: L) fl.tail rest ((d, v) :: G)) (hlt : Nat.blt d C.n = true := by rfl) (hfl : fl.headD false = false := by rfl) :
    KL C dr ops Q ims L fl (⟨some d, .buildSlice T 0 ps.toArray, ty, pos, af, none⟩ :: rest) G :=
  kl_bsO (us := []) hp rfl rfl (by decide) (fun _ h => by cases h) (fun v H f o => h v H f ⟨[], o, fun i hi => absurd hi (Nat.not_lt_zero i)⟩) hlt hfl
/-- x[:i] of what is owned. -/
theorem kl_slTakeL {A : Type} {R : Rel A} {E k : Nat} {H K : Hp} {v : Value} {xs : List A} {x y : Operand} {i : Nat} {T k' by' : Nat} {z : Value} [hT : IsSlice C.P T E k' by' z]
    (hx : ev G x = some v) (hy : ev G y = some (.int .i64 (i : Int))) (hv : OwnL E k H K R v xs) (h1 : i ≤ xs.length)
    (h : ∀ u, OwnL E k H K R u (xs.take i) → KL C dr ops Q ims L fl.tail rest ((d, u) :: G)) (hlt : Nat.blt d C.n = true := by rfl) :
    KL C dr ops Q ims L fl (⟨some d, .slice T x none (some y) none, ty, pos, af, none⟩ :: rest) G := by
  obtain ⟨cs, ⟨hl, hb, ho⟩, hR⟩ := hv
  have hik : i * k ≤ xs.length * k := Nat.mul_le_mul_right _ h1
  have hRR : ∀ j (hj : j < (xs.take i).length), R K (((cs.take (i * k)).drop (j * k)).take k) (xs.take i)[j] := fun j hj => by
    have hj' : j < i := by simp at hj; omega
    have hjk : (j + 1) * k ≤ i * k := Nat.mul_le_mul_right _ hj'
    rw [Nat.add_mul] at hjk
    have h3 := hR j (by omega)
    have e : ((cs.take (i * k)).drop (j * k)).take k = (cs.drop (j * k)).take k := by
      rw [List.drop_take, List.take_take]
      congr 1; omega
    rw [e]
    simpa using h3
  have hlen : (xs.take i).length = i := by simp; omega
  rcases ho with ⟨a0, rfl, h0, rfl⟩ | ⟨b, c, cur, rfl, h2, h3, h4, h5, rfl⟩
  · have hi0 : i = 0 := by omega
    subst hi0
    refine kl_y (v := .slice a0 0 0) (fun r w hr _ => ?_) (h _ ⟨cs.take (0 * k), ⟨by simp, by simp, .inl ⟨a0, rfl, by simp, rfl⟩⟩, hRR⟩) hlt
    simp only [execOp, Sem.run_bind, hr _ _ hx, hr _ _ hy, Option.map_some, Option.map_none]
    cases a0 with
    | none => simp [Instr.sliceAt, run_underlying hT.u, Instr.slice, Instr.sliceBounds, Instr.sliceBound, asIntOf, go_sem, sizeOf_run hT.size]
    | some a => simp [Instr.sliceAt, run_underlying hT.u, Instr.slice, Instr.sliceBounds, Instr.sliceBound, asIntOf, go_sem, sizeOf_run hT.size, Addr.add]
  · refine kl_y (v := .slice (some ⟨b, 0, none⟩) i c) (fun r w hr _ => ?_) (h _ ⟨cs.take (i * k), ⟨by rw [hlen, List.length_take, hl]; omega, by rw [hlen]; omega, .inr ⟨b, c, cur, by rw [hlen], by omega, h3, h4, by rw [hlen, ← h5, List.take_take]; congr 1; omega, rfl⟩⟩, hRR⟩) hlt
    simp only [execOp, Sem.run_bind, hr _ _ hx, hr _ _ hy, Option.map_some, Option.map_none]
    have hic : i ≤ c := by omega
    have n1 : ¬ (c < i) := by omega
    simp [Instr.sliceAt, run_underlying hT.u, Instr.slice, Instr.sliceBounds, Instr.sliceBound, asIntOf, go_sem, sizeOf_run hT.size, Addr.add, hic, n1]
/-- A constraint out of a list that is owned. -/
theorem OwnL.at5 {E i : Nat} {H K : Hp} {v p : Value} {xs : List Con} (hv : OwnL E 5 H K ConV v xs) (hp : PtrL 5 v p i) (hi : i < xs.length) :
    ∃ a b r, At H p [.int .i64 (xs.getD i nilCon).kind, a, b, .int .i64 (xs.getD i nilCon).bound, r] ∧ Ints K a (xs.getD i nilCon).vars ∧ Ints K b (xs.getD i nilCon).args ∧ Rows K r (xs.getD i nilCon).rows := by
  obtain ⟨cs, ⟨hl, hb, ho⟩, hR⟩ := hv
  have h3 := hR i hi
  obtain ⟨a, b, r, e, ha, hb', hr⟩ := h3
  have ex : xs.getD i nilCon = xs[i] := by simp [List.getD_eq_getElem?_getD, hi]
  rw [ex]
  refine ⟨a, b, r, ?_, ha, hb', hr⟩
  obtain ⟨b0, n0, c0, rfl, rfl⟩ := hp
  rcases ho with ⟨_, _, h0, _⟩ | ⟨b1, c, cur, h1, h2, h4, h5, h6, rfl⟩
  · omega
  · simp only [Value.slice.injEq, Option.some.injEq, Addr.mk.injEq, and_true] at h1
    obtain ⟨rfl, rfl, rfl⟩ := h1
    refine ⟨b0, i * 5, cur, E, (0, 0), rfl, by simp, fun j u hj => ?_⟩
    rw [← e, List.getElem?_take] at hj
    split at hj
    · rw [List.getElem?_drop, ← h6, List.getElem?_take] at hj
      split at hj
      · simpa using hj
      · cases hj
    · cases hj
theorem kt_c (k1 k2 k3 : Nat) {fx : Nat → Bool} {LS : List Hp} {fuel : Nat} {listed : Array Bool} {o1 o2 o3 : Oper} (ho1 : ops[k1]? = some o1) (ho2 : ops[k2]? = some o2) (ho3 : ops[k3]? = some o3) (hB : (Region.ready .any ops listed == [k1, k2, k3]) = true)
    (h1 : KL C true ops (QA C ops Q fx LS k1 fuel (listed.setIfInBounds k1 true) ims) ims L [false] [o1] G)
    (h2 : KL C true ops (QA C ops Q fx LS k2 fuel (listed.setIfInBounds k2 true) ims) ims L [false] [o2] G)
    (h3 : KL C true ops (QA C ops Q fx LS k3 fuel (listed.setIfInBounds k3 true) ims) ims L [false] [o3] G) : KT C ops Q fx LS (fuel + 1) listed ims L G := fun a w hf hs hdc => by
  have hr : Region.ready .any ops listed = [k1, k2, k3] := by simpa using hB
  refine ⟨fun h' => absurd (hr ▸ h') (by simp), fun i hi => ?_⟩
  have hd2 := hdc.set hi
  rw [hr] at hi
  simp only [List.mem_cons, List.not_mem_nil, or_false] at hi
  rcases hi with rfl | rfl | rfl
  · exact wpOp_of ho1 hd2 h1 hf hs
  · exact wpOp_of ho2 hd2 h2 hf hs
  · exact wpOp_of ho3 hd2 h3 hf hs
end blds
/-! A drawn region whose ways come together at its end. -/
def QJ {A : Type} (C : Cx) (Jx : A → Prop) (Kf Lf : A → List Hp) (Gf : A → Env) (ims : List Hp) : Post := fun e a w => e = .normal ∧ ∃ x, Jx x ∧ Fit C.m (Gf x) a ∧ St C.B C.X (Kf x ++ ims) (Lf x) w
theorem kc_treeJ {A : Type} {P : Program} {n : Nat} {B : World} {X : Side} {df : List Deferred} {R : Option Nat} {Q : Post} {ims L : List Hp} {G : Env} {id : Nat} {l : List Oper} (fx : Nat → Bool) (LS : List Hp) (hm : P.follows .mixedOrders = true)
    (Jx : A → Prop) (Kf Lf : A → List Hp) (Gf : A → Env)
    (h1 : KT ⟨P, n, B, X, false, df, R⟩ l.toArray (Only (QJ ⟨P, n, B, X, false, df, R⟩ Jx Kf Lf Gf ims)) fx LS l.length (Array.replicate l.length false) ims L G)
    (h2 : ∀ x, Jx x → KQ ⟨P, n, B, X, false, df, R⟩ (Kf x ++ ims) (Lf x) (Gf x) (Q .normal)) (hd : noDef l = true := by rfl) : KC ⟨P, n, B, X, false, df, R⟩ Q ims L (.region id l.toArray true) G := fun a w hf hs =>
  wpIn_mono (kc_tree fx LS hm h1 hd a w hf hs) (fun e a w h => by
    obtain ⟨rfl, x, hx, hF, hS⟩ := h
    exact h2 x hx a w hF hS)
instance {α : Type} (l m n : List α) [h : AllIn l n] [k : AllIn m n] : AllIn (l ++ m) n := ⟨fun a ha => (List.mem_append.1 ha).elim (h.all a) (k.all a)⟩
theorem kq_normI {C : Cx} {ims imr L : List Hp} {G : Env} {p : Act → World → Prop} [hn : NormL ims imr] (h : KQ C imr L G p) : KQ C ims L G p := by have e := hn.e; subst e; exact h
theorem kq_rj {A : Type} {C : Cx} {ims ims0 L L' : List Hp} {G : Env} {Jx : A → Prop} {Kf Lf : A → List Hp} {Gf : A → Env} (x0 : A) (K0 L0 : List Hp) (hk : K0 = Kf x0) (hl : L0 = Lf x0) [i1 : AllIn K0 ims] [i2 : AllIn ims0 ims] [t : TakeL L0 L L'] (hJ : Jx x0) (hp : Pick G (Gf x0)) :
    KQ C ims L G (QJ C Jx Kf Lf Gf ims0 .normal) := fun a w hf hs => ⟨rfl, x0, hJ, hp.fit hf, by
  subst hk hl
  have i : AllIn (Kf x0 ++ ims0) ims := ⟨fun a ha => (List.mem_append.1 ha).elim (i1.all a) (i2.all a)⟩
  exact (hs.perm t.t).weak (i := i) (List.sublist_append_left _ _)⟩
/-- Small models. -/
structure ConSm (n : Nat) (c : Con) : Prop where
  v1 : 1 ≤ c.vars.length
  v : c.vars.length ≤ n
  a : c.args.length ≤ n
  r : c.rows.length ≤ n
  rr : ∀ r ∈ c.rows, r.length ≤ 12
structure ModSm (n : Nat) (m : Mod) : Prop where
  d1 : 1 ≤ m.doms.length
  d : m.doms.length ≤ 4
  c : m.cons.length ≤ n
  cc : ∀ c ∈ m.cons, ConSm n c
theorem ConSm.mono {n k : Nat} {c : Con} (h : ConSm n c) (hn : n ≤ k) : ConSm k c := ⟨h.v1, Nat.le_trans h.v hn, Nat.le_trans h.a hn, Nat.le_trans h.r hn, h.rr⟩
theorem ModSm.mono {n k : Nat} {m : Mod} (h : ModSm n m) (hn : n ≤ k) : ModSm k m := ⟨h.d1, h.d, Nat.le_trans h.c hn, fun c hc => (h.cc c hc).mono hn⟩
theorem all_mono {xs : List Con} (h : ∀ c ∈ xs, ConSm 50 c) : ∀ c ∈ xs, ConSm 100 c := fun c hc => (h c hc).mono (by decide)
theorem all_nil {A : Type} {p : A → Prop} : ∀ x ∈ ([] : List A), p x := fun _ h => by cases h
theorem all_snoc {A : Type} {p : A → Prop} {xs : List A} {x : A} (h : ∀ y ∈ xs, p y) (hx : p x) : ∀ y ∈ xs ++ [x], p y := fun y hy => by
  rcases List.mem_append.1 hy with hy | hy
  · exact h y hy
  · rw [List.mem_singleton.1 hy]; exact hx
theorem all_set {A : Type} {p : A → Prop} {xs : List A} {x : A} {i : Nat} (h : ∀ y ∈ xs, p y) (hx : p x) : ∀ y ∈ xs.set i x, p y := fun y hy => by
  rcases List.mem_or_eq_of_mem_set hy with hy | hy
  · exact h y hy
  · rw [hy]; exact hx
end
section
/-! ### Small cases, asked one by one -/
theorem fin_nat {n : Nat} {p : Int → Prop} (h : ∀ i, i < n → p ((i : Nat) : Int)) {x : Int} (h0 : 0 ≤ x) (h1 : x < n) : p x := by
  obtain ⟨i, rfl⟩ := Int.eq_ofNat_of_zero_le h0
  exact h i (by omega)
/-- Lists of at most four values. -/
theorem fin_list {p : List Int → Prop} (h0 : p []) (h1 : ∀ a, a < 6 → p [((a : Nat) : Int)]) (h2 : ∀ a, a < 6 → ∀ b, b < 6 → p [((a : Nat) : Int), ((b : Nat) : Int)])
    (h3 : ∀ a, a < 6 → ∀ b, b < 6 → ∀ c, c < 6 → p [((a : Nat) : Int), ((b : Nat) : Int), ((c : Nat) : Int)])
    (h4 : ∀ a, a < 6 → ∀ b, b < 6 → ∀ c, c < 6 → ∀ d, d < 6 → p [((a : Nat) : Int), ((b : Nat) : Int), ((c : Nat) : Int), ((d : Nat) : Int)])
    {x : List Int} (hl : x.length ≤ 4) (hv : ∀ v ∈ x, (0 : Int) ≤ v ∧ v ≤ 5) : p x := by
  have key : ∀ v ∈ x, ∃ n : Nat, n < 6 ∧ v = (n : Int) := fun v hm => by
    obtain ⟨a, b⟩ := hv v hm
    obtain ⟨n, rfl⟩ := Int.eq_ofNat_of_zero_le a
    exact ⟨n, by omega, rfl⟩
  match x, hl with
  | [], _ => exact h0
  | [a], _ =>
    obtain ⟨a, ha, rfl⟩ := key a (by simp)
    exact h1 a ha
  | [a, b], _ =>
    obtain ⟨a, ha, rfl⟩ := key a (by simp)
    obtain ⟨b, hb, rfl⟩ := key b (by simp)
    exact h2 a ha b hb
  | [a, b, c], _ =>
    obtain ⟨a, ha, rfl⟩ := key a (by simp)
    obtain ⟨b, hb, rfl⟩ := key b (by simp)
    obtain ⟨c, hc, rfl⟩ := key c (by simp)
    exact h3 a ha b hb c hc
  | [a, b, c, d], _ =>
    obtain ⟨a, ha, rfl⟩ := key a (by simp)
    obtain ⟨b, hb, rfl⟩ := key b (by simp)
    obtain ⟨c, hc, rfl⟩ := key c (by simp)
    obtain ⟨d, hd, rfl⟩ := key d (by simp)
    exact h4 a ha b hb c hc d hd
/-! ### Domains -/
def valsI (d : Int) : List Int := membersTo d 6
def popI (d : Int) : Int := ((valsI d).length : Int)
theorem membersTo_len (b : Int) (k : Nat) : (membersTo b k).length ≤ k := members_len rfl
theorem valsI_mem {d v : Int} (h : v ∈ valsI d) : 0 ≤ v ∧ v ≤ 5 := by
  simp only [valsI, membersTo, natsI, List.mem_map, List.mem_filter, List.mem_range] at h
  obtain ⟨i, ⟨h1, _⟩, rfl⟩ := h
  omega
/-! ### Sums -/
def dotTo (a x : List Int) (k : Nat) : Int := ((List.range k).map (fun i => a.getD i 0 * x.getD i 0)).sum
theorem dot_succ (a x : List Int) (k : Nat) : dotTo a x (k + 1) = dotTo a x k + a.getD k 0 * x.getD k 0 := by
  simp [dotTo, List.range_succ]
def Coef (a : List Int) : Prop := ∀ v ∈ a, (-9 : Int) ≤ v ∧ v ≤ 9
def Vals (x : List Int) : Prop := ∀ v ∈ x, (0 : Int) ≤ v ∧ v ≤ 5
theorem Vals.at {x : List Int} (h : Vals x) {k : Nat} (hk : k < x.length) : (0 : Int) ≤ x.getD k 0 ∧ x.getD k 0 ≤ 5 := h _ (getD_mem hk)
theorem Coef.at {x : List Int} (h : Coef x) {k : Nat} (hk : k < x.length) : (-9 : Int) ≤ x.getD k 0 ∧ x.getD k 0 ≤ 9 := h _ (getD_mem hk)
theorem prod_le {a v : Int} (ha : (-9 : Int) ≤ a ∧ a ≤ 9) (hv : (0 : Int) ≤ v ∧ v ≤ 5) : -45 ≤ a * v ∧ a * v ≤ 45 := by
  obtain ⟨h1, h2⟩ := hv
  have h : v = 0 ∨ v = 1 ∨ v = 2 ∨ v = 3 ∨ v = 4 ∨ v = 5 := by omega
  rcases h with rfl | rfl | rfl | rfl | rfl | rfl <;> omega
theorem dot_le {a x : List Int} (ha : Coef a) (hx : Vals x) : ∀ k : Nat, k ≤ a.length → k ≤ x.length → -(45 * (k : Int)) ≤ dotTo a x k ∧ dotTo a x k ≤ 45 * (k : Int)
  | 0, _, _ => by simp [dotTo]
  | k + 1, h1, h2 => by
    have := dot_le ha hx k (by omega) (by omega)
    have hp := prod_le (ha.at (k := k) (by omega)) (hx.at (k := k) (by omega))
    rw [dot_succ]; omega
/-! ### What constraints say of values -/
def cntTo (x : List Int) (a : Int) (k : Nat) : Int := (((x.take k).filter (fun v => decide (v = a))).length : Int)
theorem cnt_succ {x : List Int} {a : Int} {k : Nat} (h : k < x.length) : cntTo x a (k + 1) = cntTo x a k + (if x.getD k 0 = a then 1 else 0) := by
  simp only [cntTo]
  rw [take_succ_getD 0 h, List.filter_append]
  by_cases e : x.getD k 0 = a
  · rw [if_pos e]
    have e' : decide (x.getD k 0 = a) = true := decide_eq_true e
    simp only [List.filter_cons, e', List.filter_nil, if_true, List.length_append, List.length_cons, List.length_nil]; omega
  · rw [if_neg e]
    have e' : decide (x.getD k 0 = a) = false := decide_eq_false e
    simp only [List.filter_cons, e', List.filter_nil, List.append_nil]; simp
theorem cnt_le (x : List Int) (a : Int) (k : Nat) : 0 ≤ cntTo x a k ∧ cntTo x a k ≤ k := by
  simp only [cntTo]
  refine ⟨by omega, ?_⟩
  have := List.length_filter_le (fun v => decide (v = a)) (x.take k)
  have h2 : (x.take k).length ≤ k := by simp; omega
  omega
abbrev runsB (a x : List Int) (t i : Nat) : Bool := decide (x.getD i 0 ≤ (t : Int)) && decide ((t : Int) < x.getD i 0 + a.getD i 0)
def loadTo (a x : List Int) (t k : Nat) : Int := ((List.range k).map (fun i => if runsB a x t i = true then a.getD (x.length + i) 0 else 0)).sum
theorem load_succ (a x : List Int) (t k : Nat) : loadTo a x t (k + 1) = loadTo a x t k + (if runsB a x t k = true then a.getD (x.length + k) 0 else 0) := by
  simp [loadTo, List.range_succ]
def roomTo (c : Con) (x : List Int) (k : Nat) : Bool := (List.range k).all (fun t => decide (loadTo c.args x t x.length ≤ c.bound))
def roomB (c : Con) (x : List Int) : Bool := roomTo c x 15
theorem load_stepT {a x : List Int} {t k : Nat} {s : Int} (h : s = loadTo a x t k) (c : runsB a x t k = true) : s + a.getD (x.length + k) 0 = loadTo a x t (k + 1) := by rw [load_succ, if_pos c, h]
theorem load_stepF {a x : List Int} {t k : Nat} {s : Int} (h : s = loadTo a x t k) (c : runsB a x t k = false) : s = loadTo a x t (k + 1) := by rw [load_succ, if_neg (by rw [c]; simp), h]; simp
theorem load_le {a x : List Int} (h : ∀ v ∈ a, (0 : Int) ≤ v ∧ v ≤ 9) (hl : 2 * x.length ≤ a.length) (t : Nat) : ∀ k : Nat, k ≤ x.length → 0 ≤ loadTo a x t k ∧ loadTo a x t k ≤ 9 * (k : Int)
  | 0, _ => by simp [loadTo]
  | k + 1, hk => by
    have h1 := load_le h hl t k (by omega)
    have h2 := h _ (getD_mem (d := (0 : Int)) (by omega : x.length + k < a.length))
    rw [load_succ]
    split <;> omega
theorem room_succ (c : Con) (x : List Int) (k : Nat) : roomTo c x (k + 1) = (roomTo c x k && decide (loadTo c.args x k x.length ≤ c.bound)) := by
  simp [roomTo, List.range_succ]
theorem room_no {c : Con} {x : List Int} {k : Nat} (hk : k < 15) (h : ¬ loadTo c.args x k x.length ≤ c.bound) : roomB c x = false := by
  cases hr : roomB c x with
  | false => rfl
  | true =>
    simp only [roomB, roomTo, List.all_eq_true, List.mem_range, decide_eq_true_eq] at hr
    exact absurd (hr k hk) h
theorem room_no' {c : Con} {x : List Int} {k i : Nat} {s : Int} (hk : k < 15) (e : s = loadTo c.args x k i) (hi : i = x.length) (h : c.bound < s) : false = roomB c x := by
  subst hi e; exact (room_no hk (by omega)).symm
theorem room_step {c : Con} {x : List Int} {k i : Nat} {s : Int} (h0 : roomTo c x k = true) (e : s = loadTo c.args x k i) (hi : i = x.length) (h : ¬ c.bound < s) : roomTo c x (k + 1) = true := by
  subst hi e; rw [room_succ, h0, decide_eq_true (by omega)]; rfl
theorem room_yes {c : Con} {x : List Int} {k : Nat} (h0 : roomTo c x k = true) (hk : k = 15) : true = roomB c x := by subst hk; exact h0.symm
abbrev stepA (rows : List (List Int)) (s v : Int) : Int := (rows.getD s.toNat []).getD v.toNat 0
def accGo (rows : List (List Int)) : Int → List Int → Int
  | s, [] => s
  | s, v :: vs => if stepA rows s v < 0 then -1 else accGo rows (stepA rows s v) vs
def accB (c : Con) (x : List Int) : Bool := decide (0 ≤ accGo c.rows 0 x) && c.args.contains (accGo c.rows 0 x)
theorem acc_at {rows : List (List Int)} {s : Int} {x : List Int} {k : Nat} (h : k < x.length) :
    accGo rows s (x.drop k) = if stepA rows s (x.getD k 0) < 0 then -1 else accGo rows (stepA rows s (x.getD k 0)) (x.drop (k + 1)) := by
  rw [List.drop_eq_getElem_cons h]
  have : x.getD k 0 = x[k] := by simp [List.getD, h]
  rw [this]; rfl
def RowsOk (rows : List (List Int)) : Prop := ∀ r ∈ rows, r.length = 6 ∧ ∀ v ∈ r, (-1 : Int) ≤ v ∧ v < rows.length
theorem acc_no {c : Con} {x : List Int} {k : Nat} {s : Int} (hk : k < x.length) (h : accGo c.rows s (x.drop k) = accGo c.rows 0 x) (hn : stepA c.rows s (x.getD k 0) < 0) : false = accB c x := by
  have e : accGo c.rows 0 x = -1 := by rw [← h, acc_at hk, if_pos hn]
  unfold accB; rw [e]; rfl
theorem acc_step {rows : List (List Int)} {x : List Int} {k : Nat} {s : Int} (hr : RowsOk rows) (hk : k < x.length) (hs : 0 ≤ s ∧ s < rows.length) (hv : (0 : Int) ≤ x.getD k 0 ∧ x.getD k 0 ≤ 5)
    (h : accGo rows s (x.drop k) = accGo rows 0 x) (hn : ¬ stepA rows s (x.getD k 0) < 0) :
    0 ≤ stepA rows s (x.getD k 0) ∧ stepA rows s (x.getD k 0) < rows.length ∧ accGo rows (stepA rows s (x.getD k 0)) (x.drop (k + 1)) = accGo rows 0 x := by
  have h1 := hr _ (getD_mem (d := ([] : List Int)) (by omega : s.toNat < rows.length))
  have h2 := h1.2 _ (getD_mem (d := (0 : Int)) (by omega : (x.getD k 0).toNat < (rows.getD s.toNat []).length))
  refine ⟨by omega, h2.2, ?_⟩
  rw [← h, acc_at hk, if_neg hn]
theorem acc_yes {c : Con} {x : List Int} {k : Nat} {s : Int} (hk : k = x.length) (hs : 0 ≤ s) (h : accGo c.rows s (x.drop k) = accGo c.rows 0 x) : c.args.contains s = accB c x := by
  subst hk
  rw [List.drop_length] at h
  have e : accGo c.rows 0 x = s := by rw [← h]; rfl
  unfold accB; rw [e, decide_eq_true hs]; rfl
def cycIGo (x : List Int) : Nat → Int → Int → Bool
  | 0, a, s => decide (a = 0) && decide (s = x.length)
  | f + 1, a, s => if decide (a ≠ 0) && decide (s ≤ x.length) then cycIGo x f (x.getD a.toNat 0) (s + 1) else decide (a = 0) && decide (s = x.length)
def cycI (x : List Int) : Bool := if x.any (fun v => decide ((x.length : Int) ≤ v)) = true then false else cycIGo x x.length (x.getD 0 0) 1
def cycSGo (x : List Int) : Nat → Int → Int → Bool
  | 0, _, _ => false
  | f + 1, a, n => if (x.length : Int) ≤ x.getD a.toNat 0 then false else if x.getD a.toNat 0 = 0 then decide (n = x.length) else cycSGo x f (x.getD a.toNat 0) (n + 1)
def cycB (x : List Int) : Bool := cycSGo x x.length 0 1
theorem cyc_eq {x : List Int} (hl : x.length ≤ 4) (hv : Vals x) (h1 : 1 ≤ x.length) : cycI x = cycB x := by
  revert h1
  refine fin_list (p := fun x => 1 ≤ x.length → cycI x = cycB x) ?_ ?_ ?_ ?_ ?_ hl hv
  · intro h; simp at h
  · have : ∀ a, a < 6 → cycI [((a : Nat) : Int)] = cycB [((a : Nat) : Int)] := by decide +kernel
    exact fun a ha _ => this a ha
  · have : ∀ a, a < 6 → ∀ b, b < 6 → cycI [((a : Nat) : Int), ((b : Nat) : Int)] = cycB [((a : Nat) : Int), ((b : Nat) : Int)] := by decide +kernel
    exact fun a ha b hb _ => this a ha b hb
  · have : ∀ a, a < 6 → ∀ b, b < 6 → ∀ c, c < 6 → cycI [((a : Nat) : Int), ((b : Nat) : Int), ((c : Nat) : Int)] = cycB [((a : Nat) : Int), ((b : Nat) : Int), ((c : Nat) : Int)] := by decide +kernel
    exact fun a ha b hb c hc _ => this a ha b hb c hc
  · have : ∀ a, a < 6 → ∀ b, b < 6 → ∀ c, c < 6 → ∀ d, d < 6 → cycI [((a : Nat) : Int), ((b : Nat) : Int), ((c : Nat) : Int), ((d : Nat) : Int)] = cycB [((a : Nat) : Int), ((b : Nat) : Int), ((c : Nat) : Int), ((d : Nat) : Int)] := by decide +kernel
    exact fun a ha b hb c hc d hd _ => this a ha b hb c hc d hd
theorem cyc_bad {x : List Int} (h : (x.any (fun v => decide ((x.length : Int) ≤ v))) = true) : false = cycI x := by unfold cycI; rw [if_pos h]
theorem cyc_in {x : List Int} (h : (x.any (fun v => decide ((x.length : Int) ≤ v))) = false) : ∀ v ∈ x, v < x.length := fun v hv => by
  simp only [List.any_eq_false, decide_eq_true_eq] at h
  have := h v hv; omega
theorem cyc_step {x : List Int} {f : Nat} {a s : Int} {R : Bool} (h : cycIGo x f a s = R) (hf : 0 < f) (c : (decide (a ≠ 0) && decide (s ≤ (x.length : Int))) = true) : cycIGo x (f - 1) (x.getD a.toNat 0) (s + 1) = R := by
  obtain ⟨g, rfl⟩ : ∃ g, f = g + 1 := ⟨f - 1, by omega⟩
  rw [← h, cycIGo, if_pos c]; rfl
theorem cyc_end {x : List Int} {f : Nat} {a s : Int} (hin : (x.any (fun v => decide ((x.length : Int) ≤ v))) = false) (h : cycIGo x f a s = cycIGo x x.length (x.getD 0 0) 1) (c : (decide (a ≠ 0) && decide (s ≤ (x.length : Int))) = false) :
    (decide (a = 0) && decide (s = (x.length : Int))) = cycI x := by
  unfold cycI; rw [hin, ← h]
  cases f with
  | zero => rfl
  | succ f => rw [cycIGo, c]; rfl
theorem cycS_at {x : List Int} {k : Nat} {a : Int} {R : Bool} (h : cycSGo x (x.length + 1 - k) a (k : Int) = R) (hk : k ≤ x.length) :
    R = if (x.length : Int) ≤ x.getD a.toNat 0 then false else if x.getD a.toNat 0 = 0 then decide ((k : Int) = x.length) else cycSGo x (x.length + 1 - (k + 1)) (x.getD a.toNat 0) (((k + 1 : Nat)) : Int) := by
  rw [← h, show x.length + 1 - k = (x.length + 1 - (k + 1)) + 1 from by omega, cycSGo]
  simp
theorem cycS_0 {x : List Int} {k : Nat} {a : Int} {R : Bool} (h : cycSGo x (x.length + 1 - k) a (k : Int) = R) (hk : ¬ (k : Int) ≤ x.length) : false = R := by
  rw [← h, show x.length + 1 - k = 0 from by omega]; rfl
/-- A constraint at the values of its variables. -/
def satB (c : Con) (x : List Int) : Bool :=
  if c.kind = 1 then decide (dotTo c.args x x.length ≤ c.bound)
  else if c.kind = 2 then decide (x.getD 0 0 ≠ x.getD 1 0 + c.args.getD 0 0)
  else if c.kind = 3 then distinctB x
  else if c.kind = 4 then decide (x.getD 0 0 < c.args.length) && decide (c.args.getD (x.getD 0 0).toNat 0 = x.getD 1 0)
  else if c.kind = 5 then c.rows.any (fun r => decide (r = x))
  else if c.kind = 6 then decide (cntTo x (c.args.getD 0 0) x.length = c.bound)
  else if c.kind = 7 then roomB c x
  else if c.kind = 8 then accB c x
  else cycB x
section kinds
variable {c : Con} {x : List Int}
theorem sat_1 (e : c.kind = 1) : satB c x = decide (dotTo c.args x x.length ≤ c.bound) := by simp [satB, e]
theorem sat_2 (e : c.kind = 2) : satB c x = decide (x.getD 0 0 ≠ x.getD 1 0 + c.args.getD 0 0) := by simp [satB, e]
theorem sat_3 (e : c.kind = 3) : satB c x = distinctB x := by simp [satB, e]
theorem sat_4 (e : c.kind = 4) : satB c x = (decide (x.getD 0 0 < (c.args.length : Int)) && decide (c.args.getD (x.getD 0 0).toNat 0 = x.getD 1 0)) := by simp [satB, e]
theorem sat_5 (e : c.kind = 5) : satB c x = c.rows.any (fun r => decide (r = x)) := by simp [satB, e]
theorem sat_6 (e : c.kind = 6) : satB c x = decide (cntTo x (c.args.getD 0 0) x.length = c.bound) := by simp [satB, e]
theorem sat_7 (e : c.kind = 7) : satB c x = roomB c x := by simp [satB, e]
theorem sat_8 (e : c.kind = 8) : satB c x = accB c x := by simp [satB, e]
theorem sat_9 (h1 : ¬ c.kind = 1) (h2 : ¬ c.kind = 2) (h3 : ¬ c.kind = 3) (h4 : ¬ c.kind = 4) (h5 : ¬ c.kind = 5) (h6 : ¬ c.kind = 6) (h7 : ¬ c.kind = 7) (h8 : ¬ c.kind = 8) : satB c x = cycB x := by simp [satB, *]
end kinds
theorem cnt_stepT {x : List Int} {a s : Int} {k : Nat} (h : s = cntTo x a k) (hk : k < x.length) (c : x.getD k 0 = a) : s + 1 = cntTo x a (k + 1) := by rw [cnt_succ hk, if_pos c, h]
theorem cnt_stepF {x : List Int} {a s : Int} {k : Nat} (h : s = cntTo x a k) (hk : k < x.length) (c : ¬ x.getD k 0 = a) : s = cntTo x a (k + 1) := by rw [cnt_succ hk, if_neg c, h]; simp
theorem popI_le (d : Int) : 0 ≤ popI d ∧ popI d ≤ 6 := by have := membersTo_len d 6; simp only [popI, valsI]; omega
structure SatOk (c : Con) (x : List Int) : Prop where
  fit : fitsB c = true
  len : c.vars.length = x.length
  one : 1 ≤ x.length
  four : x.length ≤ 4
  val : Vals x
theorem SatOk.k1 {c : Con} {x : List Int} (h : SatOk c x) (e : c.kind = 1) : c.args.length = x.length ∧ Coef c.args := by
  have h1 := h.fit; have h2 := h.len
  simp [fitsB, e, allInB_iff] at h1
  exact ⟨by omega, h1.1.1.2⟩
theorem SatOk.k2 {c : Con} {x : List Int} (h : SatOk c x) (e : c.kind = 2) : x.length = 2 ∧ c.args.length = 1 ∧ Coef c.args := by
  have h1 := h.fit; have h2 := h.len
  simp [fitsB, e, allInB_iff] at h1
  exact ⟨by omega, by omega, h1.1.1.2.2⟩
theorem SatOk.k4 {c : Con} {x : List Int} (h : SatOk c x) (e : c.kind = 4) : x.length = 2 := by
  have h1 := h.fit; have h2 := h.len
  simp [fitsB, e] at h1
  omega
theorem SatOk.k5 {c : Con} {x : List Int} (h : SatOk c x) (e : c.kind = 5) : ∀ r ∈ c.rows, r.length = x.length := fun r hr => by
  have h1 := h.fit; have h2 := h.len
  simp [fitsB, e, rowsInB] at h1
  have := (h1.2.2 r hr).1
  omega
theorem SatOk.k6 {c : Con} {x : List Int} (h : SatOk c x) (e : c.kind = 6) : c.args.length = 1 := by
  have h1 := h.fit
  simp [fitsB, e] at h1
  omega
theorem SatOk.k7 {c : Con} {x : List Int} (h : SatOk c x) (e : c.kind = 7) : c.args.length = 2 * x.length ∧ ∀ v ∈ c.args, (0 : Int) ≤ v ∧ v ≤ 9 := by
  have h1 := h.fit; have h2 := h.len
  simp [fitsB, e, allInB_iff] at h1
  exact ⟨by omega, h1.1.1.2⟩
theorem SatOk.k8r {c : Con} {x : List Int} (h : SatOk c x) (e : c.kind = 8) : RowsOk c.rows := by
  have h1 := h.fit
  simp [fitsB, e, rowsInB, allInB_iff, withinB] at h1
  refine fun r hr => ?_
  obtain ⟨h3, h4⟩ := h1.1.1.1.2 r hr
  exact ⟨by omega, fun v hv => by have := h4 v hv; omega⟩
theorem SatOk.k8 {c : Con} {x : List Int} (h : SatOk c x) (e : c.kind = 8) : 1 ≤ c.rows.length ∧ ∀ r ∈ c.rows, r.length = 6 ∧ ∀ v ∈ r, (-1 : Int) ≤ v ∧ v < c.rows.length := by
  have h1 := h.fit
  simp [fitsB, e, rowsInB, allInB_iff, withinB] at h1
  refine ⟨by omega, fun r hr => ?_⟩
  obtain ⟨h3, h4⟩ := h1.1.1.1.2 r hr
  exact ⟨by omega, fun v hv => by have := h4 v hv; omega⟩
/-! ### Words -/
def wordTo (vs x : List Int) (k : Nat) : List Int := (vs.take k).map (fun v => x.getD v.toNat 0)
def wordL (vs x : List Int) : List Int := vs.map (fun v => x.getD v.toNat 0)
theorem word_step {vs x : List Int} {k : Nat} {out : List Int} (e : out = wordTo vs x k) (h : k < vs.length) : out ++ [x.getD (vs.getD k 0).toNat 0] = wordTo vs x (k + 1) := by
  subst e; simp only [wordTo]; rw [take_succ_getD 0 h, List.map_append]; rfl
theorem word_len {vs x : List Int} {k : Nat} {out : List Int} (e : out = wordTo vs x k) : out.length ≤ k := by subst e; simp [wordTo]; omega
theorem word_end {vs x : List Int} {k : Nat} {out : List Int} (e : out = wordTo vs x k) (h : vs.length ≤ k) : out = wordL vs x := by
  subst e; simp only [wordTo, wordL]; rw [List.take_of_length_le h]
/-! ### Models at values -/
def conAt (x : List Int) (c : Con) : Bool := satB c (wordL c.vars x)
def metB (m : Mod) (x : List Int) : Bool := m.cons.all (conAt x)
structure MOk (m : Mod) : Prop where
  v : validModB m = true
theorem MOk.n {m : Mod} (h : MOk m) : 1 ≤ m.doms.length ∧ m.doms.length ≤ 4 := valid_n h.v
theorem MOk.i {m : Mod} (h : MOk m) : InN m.cons m.doms.length := valid_in h.v
theorem MOk.d {m : Mod} (h : MOk m) {k : Nat} (hk : k < m.doms.length) : (0 : Int) ≤ m.doms.getD k 0 ∧ m.doms.getD k 0 ≤ 63 := by
  have := h.v
  simp only [validModB, domainsOkB, Bool.and_eq_true, allInB_iff] at this
  exact this.1.1.2 _ (getD_mem hk)
theorem MOk.c {m : Mod} (h : MOk m) {k : Nat} (hk : k < m.cons.length) : validConB (m.cons.getD k nilCon) m.doms.length = true := by
  have := h.v
  simp only [validModB, Bool.and_eq_true, List.all_eq_true] at this
  exact this.2 _ (getD_mem hk)
theorem MOk.cm {m : Mod} (h : MOk m) {c : Con} (hc : c ∈ m.cons) : validConB c m.doms.length = true := by
  have := h.v
  simp only [validModB, Bool.and_eq_true, List.all_eq_true] at this
  exact this.2 _ hc
theorem MOk.few {m : Mod} (h : MOk m) : m.cons.length ≤ 6 := by
  have := h.v
  simp only [validModB, Bool.and_eq_true, decide_eq_true_eq] at this
  omega
structure ConOk (c : Con) (n : Nat) : Prop where
  v : validConB c n = true
theorem ConOk.vars {c : Con} {n : Nat} (h : ConOk c n) : ∀ v ∈ c.vars, (0 : Int) ≤ v ∧ v < n := fun v hv => by
  have := h.v
  simp only [validConB, Bool.and_eq_true, allInB_iff] at this
  have := this.1.1.2 v hv
  omega
theorem ConOk.one {c : Con} {n : Nat} (h : ConOk c n) : 1 ≤ c.vars.length ∧ c.vars.length ≤ n ∧ n ≤ 4 := by
  have := h.v
  simp only [validConB, Bool.and_eq_true, withinB_iff] at this
  omega
theorem ConOk.at {c : Con} {n k : Nat} (h : ConOk c n) (hk : k < c.vars.length) : (0 : Int) ≤ c.vars.getD k 0 ∧ c.vars.getD k 0 < n := h.vars _ (getD_mem hk)
theorem ConOk.sat {c : Con} {n : Nat} (h : ConOk c n) {x : List Int} (hl : x.length = n) (hx : Vals x) : SatOk c (wordL c.vars x) := by
  have ho := h.one
  have := h.v
  simp only [validConB, Bool.and_eq_true] at this
  refine ⟨this.2, by simp [wordL], by simp [wordL]; omega, by simp [wordL]; omega, fun v hv => ?_⟩
  simp only [wordL, List.mem_map] at hv
  obtain ⟨a, ha, rfl⟩ := hv
  have := h.vars a ha
  exact hx _ (getD_mem (by omega))
/-! ### Quantified formulas -/
theorem Vals.snoc {x : List Int} {v : Int} (h : Vals x) (hv : 0 ≤ v ∧ v ≤ 5) : Vals (x ++ [v]) := fun u hu => by
  rcases List.mem_append.1 hu with h' | h'
  · exact h u h'
  · rw [List.mem_singleton.1 h']; exact hv
theorem vals_nil : Vals [] := fun _ h => by cases h
/-! Winning values. -/
theorem shl_le {v : Int} (h : 0 ≤ v ∧ v ≤ 5) : 1 ≤ ishl 1 v ∧ ishl 1 v ≤ 32 := by
  have : ∀ i, i < 6 → 1 ≤ ishl 1 ((i : Nat) : Int) ∧ ishl 1 ((i : Nat) : Int) ≤ 32 := by decide +kernel
  exact fin_nat (n := 6) (p := fun v => 1 ≤ ishl 1 v ∧ ishl 1 v ≤ 32) this h.1 (by omega)
/-! The game. -/
def objOkB (m : Mod) (obj : List Int) : Bool := (validModB m && decide ((obj.length : Int) = (m.doms.length : Int))) && allInB obj (-9) 9
def objOkS (m : Mod) (obj : List Int) : Bool := decide ((obj.length : Int) = (m.doms.length : Int)) && allInB obj (-9) 9
theorem objok {m : Mod} {obj : List Int} (h : objOkB m obj = true) : MOk m ∧ obj.length = m.doms.length ∧ Coef obj := by
  simp only [objOkB, Bool.and_eq_true, decide_eq_true_eq, allInB_iff] at h
  exact ⟨⟨h.1.1⟩, by omega, h.2⟩
theorem obj_eq (m : Mod) (obj : List Int) : objOkB m obj = (validModB m && objOkS m obj) := by simp only [objOkB, objOkS, Bool.and_assoc]
theorem row_step {r x : List Int} {j : Nat} {b : Bool} (hj : j < x.length) (hl : r.length = x.length) (h : b = decide (r.take j = x.take j)) : (b && decide (r.getD j 0 = x.getD j 0)) = decide (r.take (j + 1) = x.take (j + 1)) := by
  subst h
  rw [take_succ_getD 0 hj, take_succ_getD 0 (by omega : j < r.length), Bool.eq_iff_iff]
  simp only [Bool.and_eq_true, decide_eq_true_eq]
  constructor
  · rintro ⟨h1, h2⟩; rw [h1, h2]
  · intro h
    have := List.append_inj h (by simp; omega)
    exact ⟨this.1, by simpa using this.2⟩
theorem row_neq {r x : List Int} {j : Nat} {b : Bool} (hj : j = x.length) (hl : r.length = x.length) (h : b = decide (r.take j = x.take j)) (c : b = false) : decide (r = x) = false := by
  subst hj c
  rw [List.take_length, ← hl, List.take_length] at h
  exact h.symm
theorem row_eq {r x : List Int} {j : Nat} {b : Bool} (hj : j = x.length) (hl : r.length = x.length) (h : b = decide (r.take j = x.take j)) (c : b = true) : decide (r = x) = true := by
  subst hj c
  rw [List.take_length, ← hl, List.take_length] at h
  exact h.symm
theorem dh_T {d : Int} {k : Nat} (h : (withinB (k : Int) 0 5 && hasB d (k : Int)) = true) : hasB d (k : Int) = true := by simp only [Bool.and_eq_true] at h; exact h.2
theorem dh_F {d : Int} {k : Nat} (hk : k < 6) (h : (withinB (k : Int) 0 5 && hasB d (k : Int)) = false) : hasB d (k : Int) = false := by
  rw [show withinB (k : Int) 0 5 = true from by rw [withinB_iff]; omega] at h; simpa using h
/-! Violated constraints. -/
/-! Minimax, case by case. -/
section mm
variable {m : Mod} {obj : List Int} {fa : List Bool}
end mm
end
section
/-! Winning values. -/
/-! A winning value keeps the formula true. -/
end
section
/-! Connectedness. -/
section conn
variable {n : Nat} {p : Nat → Nat → Prop} {w : Nat → Prop} {v a b : Nat}
theorem Conn.lt (h : Conn n p w v b) (hv : v < n) : b < n := by cases h with | refl => exact hv | step _ _ h _ => exact h
theorem Conn.free (h : Conn n p w v b) (hv : ¬ w v) : ¬ w b := by cases h with | refl => exact hv | step _ _ _ h => exact h
theorem Conn.trans (h : Conn n p w v a) (k : Conn n p w a b) : Conn n p w v b := by
  induction k with
  | refl => exact h
  | step _ h1 h2 h3 ih => exact .step ih h1 h2 h3
theorem Conn.symm (hp : ∀ a b, p a b → p b a) (hv : v < n) (hw : ¬ w v) (h : Conn n p w v b) : Conn n p w b v := by
  induction h with
  | refl => exact .refl
  | step h1 h2 h3 h4 ih => exact Conn.trans (.step .refl (hp _ _ h2) (h1.lt hv) (h1.free hw)) ih
end conn
abbrev Cn (m : Mod) (v b : Nat) : Prop := Conn m.doms.length (fun x y => adjB m.cons x y = true) (fun _ => False) v b
theorem adj_symm (m : Mod) : ∀ a b : Nat, adjB m.cons a b = true → adjB m.cons b a = true := fun a b h => by rw [adjB_comm]; exact h
theorem Cn.symm {m : Mod} {v b : Nat} (hv : v < m.doms.length) (h : Cn m v b) : Cn m b v := Conn.symm (adj_symm m) hv (fun h => h) h
structure MaskC (m : Mod) (v : Nat) (x : Nat) : Prop where
  e : linkedI m (v : Int) 0 = (x : Int)
  lt : x < 16
  b : ∀ b, x.testBit b = true ↔ Cn m v b
theorem MaskC.pos {m : Mod} {v x : Nat} (h : MaskC m v x) : 1 ≤ x := by
  have := (h.b v).2 .refl
  refine Nat.one_le_iff_ne_zero.2 (fun e => ?_)
  subst e; simp at this
theorem MaskC.has {m : Mod} {v x b : Nat} (h : MaskC m v x) (hb : b < 4) : hasB (x : Int) (b : Int) = true ↔ Cn m v b := by
  have := h.lt
  rw [hasB_nat (by omega) (by omega), h.b]
/-! Separation. -/
end
section
class IsArr (P : Program) (T : Nat) (n : outParam Nat) : Prop where
  u : ∃ E, P.underlying T = some (.array n E) ∧ (P.info? E).map (·.size) = some 1
class IsStr (P : Program) (T : Nat) : Prop where
  u : P.underlying T = some .string
section ops
variable {C : Cx} {dr : Bool} {ops : Array Oper} {Q : Post} {ims L : List Hp} {G : Env} {fl : List Bool} {rest : List Oper} {d ty : Nat} {pos : String} {af : Array Edge}
end ops
end
section
section ops
variable {C : Cx} {dr : Bool} {ops : Array Oper} {Q : Post} {ims L : List Hp} {G : Env} {fl : List Bool} {rest : List Oper} {d ty : Nat} {pos : String} {af : Array Edge}
theorem evs_map {G : Env} {r : Operand → Value} (hr : ∀ x v, ev G x = some v → r x = v) : ∀ {xs : List Operand} {vs : List Value}, evs G xs = some vs → xs.map r = vs := by
  intro xs
  induction xs with
  | nil => intro vs h; simp [evs] at h; simp [h]
  | cons x t ih =>
    intro vs h
    simp only [evs] at h
    split at h
    · rename_i v ws h1 h2
      simp at h; subst h
      simp [hr _ _ h1, ih h2]
    · cases h
theorem kl_mkfB {f : Fn} {bs xs : List Operand} {us vs : List Value} (hb : evs G bs = some us) (hx : evs G xs = some vs) (h : KL C dr ops Q ims L fl.tail rest ((d, .func f us.toArray vs.toArray) :: G)) (hlt : Nat.blt d C.n = true := by rfl) :
    KL C dr ops Q ims L fl (⟨some d, .makeFunc f bs.toArray xs.toArray, ty, pos, af, none⟩ :: rest) G :=
  kl_y (fun r w hr hs => by
    simp [execOp, Instr.makeFunc, evs_map hr hx, evs_map hr hb]) h hlt
theorem kl_callB {f : Operand} {xs : List Operand} {ats : Array Nat} {g : Nat} {bd cap : Array Value} {vs : List Value} {ims' : List Hp} {phi : Hp → Value → Prop} [hb : FnC C.P g]
    (hf : ev G f = some (.func (.func g) bd cap)) (ha : evs G xs = some vs) (hs : Spec C.P g (bd.toList ++ vs ++ cap.toList) ims' phi) [hi : AllGot ims' ims L]
    (h : ∀ v H, Fr C.B H → phi H v → KL C dr ops Q (H :: ims) L fl.tail rest ((d, v) :: G)) (hlt : Nat.blt d C.n = true := by rfl) (hfl : fl.headD false = false := by rfl) :
    KL C dr ops Q ims L fl (⟨some d, .call ⟨.value f, xs.toArray, ats⟩, ty, pos, af, none⟩ :: rest) G :=
  kl_act rfl hfl fun a w hF hS => by
    have hrun : (execOp a.eval ⟨some d, .call ⟨.value f, xs.toArray, ats⟩, ty, pos, af, none⟩).run C.P w = .ok (.enter g (bd.toList ++ vs ++ cap.toList).toArray) w := by
      have h1 : xs.map a.eval = vs := hF.evs ha
      simp only [execOp, resolve, hF.ev hf, Deferred.ofValue, Sem.run_bind, Sem.run_pure, Result.andThen_ok, invoke, List.map_toArray, h1]
      rw [hb.run]
      simp
    unfold Oper.wp
    rw [hrun]
    refine (hs w (fun H hH => hi.g hS H hH)).mono fun e w' he => ?_
    cases e with
    | returned v =>
      obtain ⟨h1, H, h2, h3, h4⟩ := he
      exact ⟨H :: ims, L, _, .inr (fun _ u hu => hu.weak (i := ⟨fun a ha => .tail _ ha⟩) slr9), hF.put (by simpa [Nat.blt_eq, Cx.m] using hlt),
        hS.pushIm h1 h2 h3.1, h v H ⟨fun b hb => Nat.le_trans hS.size (h3.1 b hb), h3.2⟩ h4⟩
    | panicked c => exact he
    | outgrown => exact he.elim
end ops
/-- Two owned heaplets are one. -/
theorem St.mrg {B : World} {X : Side} {ims L' : List Hp} {w : World} {K H : Hp} (h : St B X ims ([K, H] ++ L') w) : St B X ims (orHp K H :: L') w := by
  have hk := h.own K (.head _)
  have hh := h.own H (.tail _ (.head _))
  have hL : ∀ M ∈ L', M ∈ [K, H] ++ L' := fun M hM => .tail _ (.tail _ hM)
  have hnd := List.pairwise_cons.1 h.nd
  have hnd2 := List.pairwise_cons.1 hnd.2
  have hor : ∀ b, orHp K H b ≠ none → K b ≠ none ∨ H b ≠ none := fun b hb => by
    by_cases e : K b = none
    · right; intro e2; exact hb (by simp [orHp, e, e2])
    · exact .inl e
  have hap : ∀ M : Hp, Apart K M → Apart H M → Apart (orHp K H) M := fun M a c b => by
    rcases a b with e | e
    · rcases c b with e' | e'
      · exact .inl (by simp [orHp, e, e'])
      · exact .inr e'
    · exact .inr e
  refine h.turn (Nat.le_refl _) (fun _ _ _ => rfl) (Io.refl _) (fun b hb => ?_) (fun b hb hx => ?_) (fun I hI => h.im I hI) (fun M hM => ?_) ?_
  · left
    rcases hb with ⟨M, hM, hb⟩ | hb
    · cases hM with
      | head => rcases hor b hb with e | e
                · exact .inl ⟨K, .head _, e⟩
                · exact .inl ⟨H, .tail _ (.head _), e⟩
      | tail _ hM => exact .inl ⟨M, hL M hM, hb⟩
    · exact .inr hb
  · exact h.ext b hb hx
  · cases hM with
    | head => exact ⟨agree_or hk.1 hh.1, fun b hb => (hor b hb).elim (hk.2.1 b) (hh.2.1 b), fun I hI => hap I (hk.2.2 I hI) (hh.2.2 I hI)⟩
    | tail _ hM => exact h.own M (hL M hM)
  · exact List.pairwise_cons.2 ⟨fun M hM => hap M (hnd.1 M (.tail _ hM)) (hnd2.1 M hM), hnd2.2⟩
theorem kq_mrg {C : Cx} {ims L : List Hp} {G : Env} {p : Act → World → Prop} (K H : Hp) {L' : List Hp} [t : TakeL [K, H] L L'] (h : KQ C ims (orHp K H :: L') G p) : KQ C ims L G p :=
  fun a w hf hs => h a w hf (hs.perm t.t).mrg
/-- An empty owned heaplet is there for the asking. -/
theorem kc_noO {C : Cx} {Q : Post} {ims L : List Hp} {G : Env} {c : Code} (h : KC C Q ims (noHp :: L) c G) : KC C Q ims L c G :=
  fun a w hf hs => h a w hf (hs.push (Ext.refl _ _) (agree_no w) (fun _ hb => absurd rfl hb))
theorem liq_or {H K : Hp} (h : Liq H) (k : Liq K) : Liq (orHp H K) := fun b o hb => by
  simp only [orHp] at hb
  cases e : H b with
  | none => rw [e] at hb; exact k b o (by simpa using hb)
  | some x => rw [e] at hb; exact h b o (by rw [e]; simpa using hb)
theorem liq_no : Liq noHp := fun b o hb => by cases hb
theorem OwnL.liq {A : Type} {E k : Nat} {H K : Hp} {R : Rel A} {v : Value} {xs : List A} (h : OwnL E k H K R v xs) : Liq H := by
  obtain ⟨cs, ⟨_, _, h3⟩, _⟩ := h
  rcases h3 with ⟨_, _, _, rfl⟩ | ⟨b, c, cur, _, _, _, _, _, rfl⟩
  · exact liq_no
  · exact liq_sing
/-- What is owned by a call that writes nothing of its caller's is new. -/
theorem kl_fr {P : Program} {n : Nat} {B : World} {lo : Bool} {df : List Deferred} {R : Option Nat} {dr : Bool} {ops : Array Oper} {Q : Post} {ims L : List Hp} {G : Env} {fl : List Bool} {rest : List Oper} (H : Hp) [i : In H L] (hl : Liq H)
    (h : Fr B H → KL ⟨P, n, B, noS, lo, df, R⟩ dr ops Q ims L fl rest G) : KL ⟨P, n, B, noS, lo, df, R⟩ dr ops Q ims L fl rest G := fun a w hf hs =>
  h ⟨fun b hb => ((hs.own H i.mem).2.1 b hb).resolve_right (fun h => h.elim), hl⟩ a w hf hs
theorem At.take {H : Hp} {p : Value} {vs : List Value} (k : Nat) (h : At H p vs) : At H p (vs.take k) := by
  obtain ⟨b, o, cs, T, fz, h1, h2, h3⟩ := h
  refine ⟨b, o, cs, T, fz, h1, h2, fun j u hj => h3 j u ?_⟩
  rw [List.getElem?_take] at hj
  split at hj
  · exact hj
  · cases hj
/-- A struct (a part, it may be) of what is owned. -/
theorem kl_ldSL {C : Cx} {dr : Bool} {ops : Array Oper} {Q : Post} {ims L : List Hp} {G : Env} {fl : List Bool} {rest : List Oper} {d ty : Nat} {pos : String} {af : Array Edge} {H : Hp} {p : Value} {vs : List Value} {x : Operand} {T k : Nat} [hT : AggC C.P T k] [hi : In H L] (hx : ev G x = some p) (hp : At H p vs) (hk : Nat.beq vs.length k = true)
    (h : KL C dr ops Q ims L fl.tail rest ((d, .agg vs.toArray) :: G)) (hlt : Nat.blt d C.n = true := by rfl) (hlo : C.lo = false := by rfl) : KL C dr ops Q ims L fl (⟨some d, .load T x, ty, pos, af, none⟩ :: rest) G :=
  kl_y (fun r w hr hs => by
    rw [Cx.whi hlo] at hs
    have hat := hp
    obtain ⟨b, o, cs, T', fz, rfl, _⟩ := hp
    have hc := loadCells_at (P := C.P) (hs.own H hi.mem).1 hat
    rw [Nat.eq_of_beq_eq_true hk] at hc
    have h1 : (Instr.loadAt T (.pointer (some ⟨b, o, none⟩))).run C.P w = .ok (.agg vs.toArray) w := by
      simp only [Instr.loadAt, Instr.sureAddr, loadVar, Sem.run_bind, Sem.run_pure, Result.andThen_ok, AggC.run, sizeOf_run hT.i, hc, if_true]
    simp only [execOp, Sem.run_bind, hr _ _ hx, h1, Result.andThen_ok, Sem.run_pure]) h hlt
/-! Structs whose parts are structs. -/
def fillC (place : Nat → Option (Nat × Nat)) (cells : Array Value) : List (Nat × Array Value) → Option (Array Value)
  | [] => some cells
  | (i, a) :: rest =>
    match place i with
    | none => none
    | some (off, size) =>
      if a.size ≠ size || off + a.size > cells.size then none
      else fillC place (a.zipIdx.foldl (fun cs (c, j) => cs.setIfInBounds (off + j) c) cells) rest
theorem fill_c (place : Nat → Option (Nat × Nat)) : ∀ (pv : List (Nat × Value)) (cells : Array Value), Instr.fill place cells pv = fillC place cells (pv.map (fun p => (p.1, p.2.cells)))
  | [], _ => rfl
  | (i, v) :: r, cells => by
    simp only [Instr.fill, fillC, List.map_cons]
    cases place i with
    | none => rfl
    | some q =>
      obtain ⟨o, s⟩ := q
      simp only
      split
      · rfl
      · exact fill_c place r _
def fillLs (offs szs : List Nat) : List Value → List (Nat × List Value) → Option (List Value)
  | cs, [] => some cs
  | cs, (i, us) :: r => match (offs.zip szs)[i]? with
    | some (o, s) => bif Nat.beq us.length s && Nat.ble (o + us.length) cs.length then fillLs offs szs (cs.take o ++ us ++ cs.drop (o + us.length)) r else none
    | none => none
theorem fold_put (o : Nat) : ∀ (us cs : List Value) (k : Nat), o + k + us.length ≤ cs.length → (us.zipIdx k).foldl (fun (cs : Array Value) (x : Value × Nat) => cs.setIfInBounds (o + x.2) x.1) cs.toArray = (cs.take (o + k) ++ us ++ cs.drop (o + k + us.length)).toArray
  | [], cs, k, _ => by simp
  | u :: us, cs, k, h => by
    simp only [List.length_cons] at h
    rw [List.zipIdx_cons, List.foldl_cons]
    have e : cs.toArray.setIfInBounds (o + k) u = (cs.set (o + k) u).toArray := by simp
    rw [e, fold_put o us (cs.set (o + k) u) (k + 1) (by rw [List.length_set]; omega)]
    congr 1
    have h1 : (cs.set (o + k) u).take (o + (k + 1)) = cs.take (o + k) ++ [u] := by
      rw [← Nat.add_assoc, take_succ_getD undef (by rw [List.length_set]; omega), List.take_set_of_le (Nat.le_refl _)]
      congr 2
      rw [List.getD_eq_getElem?_getD, List.getElem?_set_self (by omega)]; rfl
    have h2 : (cs.set (o + k) u).drop (o + (k + 1) + us.length) = cs.drop (o + k + (u :: us).length) := by
      rw [List.drop_set_of_lt (by omega)]
      congr 1; simp only [List.length_cons]; omega
    rw [h1, h2]; simp
theorem fill_ls {offs szs : List Nat} : ∀ {pc : List (Nat × List Value)} {cs us : List Value}, fillLs offs szs cs pc = some us → fillC ((offs.zip szs).toArray[·]?) cs.toArray (pc.map (fun p => (p.1, p.2.toArray))) = some us.toArray
  | [], cs, us, h => by
    simp only [fillLs, Option.some.injEq] at h
    subst h; rfl
  | (i, vs) :: r, cs, us, h => by
    simp only [fillLs] at h
    split at h
    · rename_i o s hi
      cases hb : (Nat.beq vs.length s && Nat.ble (o + vs.length) cs.length) with
      | false => rw [hb] at h; cases h
      | true =>
        rw [hb] at h
        simp only [Bool.and_eq_true] at hb
        have h1 := Nat.eq_of_beq_eq_true hb.1
        have h2 := Nat.le_of_ble_eq_true hb.2
        have ih := fill_ls h
        simp only [List.map_cons, fillC, List.getElem?_toArray, hi]
        rw [if_neg (by simp; omega)]
        have e : vs.toArray.zipIdx.foldl (fun cs (x : Value × Nat) => cs.setIfInBounds (o + x.2) x.1) cs.toArray = (cs.take o ++ vs ++ cs.drop (o + vs.length)).toArray := by
          have := fold_put o vs cs 0 (by omega)
          simpa using this
        have e2 : vs.toArray.zipIdx.foldl (fun cs (c, j) => cs.setIfInBounds (o + j) c) cs.toArray = (cs.take o ++ vs ++ cs.drop (o + vs.length)).toArray := e
        rw [e2]; simp only [List.getElem?_toArray] at ih; exact ih
    · cases h
theorem cpa_nil : ([] : List (Nat × Value)).map (fun p => (p.1, p.2.cells)) = ([] : List (Nat × List Value)).map (fun p => (p.1, p.2.toArray)) := rfl
theorem cpa {i : Nat} {v : Value} {a : List Value} {r : List (Nat × Value)} {t : List (Nat × List Value)} (h : v.cells = a.toArray) (k : r.map (fun p => (p.1, p.2.cells)) = t.map (fun p => (p.1, p.2.toArray))) : ((i, v) :: r).map (fun p => (p.1, p.2.cells)) = ((i, a) :: t).map (fun p => (p.1, p.2.toArray)) := by
  simp only [List.map_cons]; rw [k, h]
theorem kl_bdA {C : Cx} {dr : Bool} {ops : Array Oper} {Q : Post} {ims L : List Hp} {G : Env} {fl : List Bool} {rest : List Oper} {d ty : Nat} {pos : String} {af : Array Edge} {T : Nat} {offs szs : List Nat} {zs : List Value} (pc : List (Nat × List Value)) (us : List Value) [hS : StrC C.P T offs szs zs] {ps : List (Nat × Operand)} {pv : List (Nat × Value)} (hp : evp G ps = some pv) (hu : pv.map (fun p => (p.1, p.2.cells)) = pc.map (fun p => (p.1, p.2.toArray))) (hb : fillLs offs szs zs pc = some us)
    (h : KL C dr ops Q ims L fl.tail rest ((d, .agg us.toArray) :: G)) (hlt : Nat.blt d C.n = true := by rfl) : KL C dr ops Q ims L fl (⟨some d, .build T ps.toArray, ty, pos, af, none⟩ :: rest) G :=
  kl_y (fun r w hr _ => by
    obtain ⟨fs, h1, h2⟩ := hS.u
    have hz := zeroValue_run (P := C.P) hS.z w
    have hff : Instr.fill ((offs.zip szs).toArray[·]?) zs.toArray pv = some us.toArray := by rw [fill_c, hu]; exact fill_ls hb
    simp only [execOp, Instr.build, Sem.run_bind, List.map_toArray, evp_run hr hp, hz, run_underlying h1, Result.andThen_ok, h2 w]
    have e : (Value.agg zs.toArray).cells = zs.toArray := rfl
    rw [e, hff]
    rfl) h hlt
end
section

end
section
section ops
variable {C : Cx} {dr : Bool} {ops : Array Oper} {Q : Post} {ims L : List Hp} {G : Env} {fl : List Bool} {rest : List Oper} {d ty : Nat} {pos : String} {af : Array Edge}
variable {A : Type} {R : Rel A} {E k : Nat} {H K : Hp} {v : Value} {xs : List A} {x y : Operand} {T k' by' : Nat} {z : Value}
/-- An empty literal slice of elements of k cells. -/
theorem kl_bs0k (R : Rel A) {ps : List (Nat × Operand)} [hT : IsSlice C.P T E k by' z] (hp : evp G ps = some [])
    (h : ∀ v H, Fr C.B H → OwnL E k H K R v [] → KL C dr ops Q ims (H :: L) fl.tail rest ((d, v) :: G)) (hlt : Nat.blt d C.n = true := by rfl) (hfl : fl.headD false = false := by rfl) :
    KL C dr ops Q ims L fl (⟨some d, .buildSlice T 0 ps.toArray, ty, pos, af, none⟩ :: rest) G := by
  refine kl_new (v := fun b => .slice (some ⟨b, 0, none⟩) 0 0) (o := .cells #[] E) (fun r w hr => ?_) (fun b hb => h _ _ (fr_sing hb) ⟨[], ⟨by simp, by simp, .inr ⟨b, 0, #[], rfl, Nat.le_refl _, by simp [maxLen], by simp, by simp, rfl⟩⟩, fun i hi => absurd hi (Nat.not_lt_zero i)⟩) hlt hfl
  have hps := evp_run hr hp
  have key : (Instr.buildSlice T 0 ([] : List (Nat × Value)).toArray).run C.P w = .ok (.slice (some ⟨w.heap.size, 0, none⟩) 0 0) (w.alloc (.cells #[] E)) := by
    simp [Instr.buildSlice, run_underlying hT.u, sizeOf_run hT.size, Instr.fill, newRow, Array.range]
    refine congrArg (fun x => w.alloc (.cells x E)) ?_
    apply Array.eq_empty_of_size_eq_zero; simp
  simp only [execOp, Sem.run_bind, List.map_toArray, hps, key, Result.andThen_ok, Sem.run_pure]
end ops
end
section
structure Lit where
  var : Int
  val : Int
  neg : Bool
def nilLit : Lit := ⟨0, 0, false⟩
theorem lit_ext {a b : Lit} : a = b ↔ a.var = b.var ∧ a.val = b.val ∧ a.neg = b.neg := by cases a; cases b; simp
instance : DecidableEq Lit := fun a b => decidable_of_iff _ lit_ext.symm
def LitC (vs : List Value) (l : Lit) : Prop := vs = [.int .i64 l.var, .int .i64 l.val, .bool l.neg]
def LitV : Rel Lit := fun _ vs l => LitC vs l
instance : RMono LitV := ⟨fun _ h => h⟩
instance : ROne LitV := ⟨fun h u hu => by
  have h : _ = _ := h
  subst h
  simp only [List.mem_cons, List.not_mem_nil, or_false] at hu
  rcases hu with rfl | rfl | rfl <;> rfl⟩
abbrev Lits (H : Hp) (v : Value) (xs : List Lit) : Prop := Sl H 3 LitC v xs
theorem OwnL.lits {E : Nat} {H K : Hp} {v : Value} {xs : List Lit} (h : OwnL E 3 H K LitV v xs) : Lits H v xs := h.sl (fun _ _ h => h) (fun _ _ h => h)
theorem OwnL.atQ {E i : Nat} {H K : Hp} {v p : Value} {xs : List Lit} (hv : OwnL E 3 H K LitV v xs) (hp : PtrL 3 v p i) (hi : i < xs.length) :
    At H p [.int .i64 (xs.getD i nilLit).var, .int .i64 (xs.getD i nilLit).val, .bool (xs.getD i nilLit).neg] := by
  obtain ⟨cs, ⟨hl, hb, ho⟩, hR⟩ := hv
  have e : (cs.drop (i * 3)).take 3 = [.int .i64 (xs[i]).var, .int .i64 (xs[i]).val, .bool (xs[i]).neg] := hR i hi
  have ex : xs.getD i nilLit = xs[i] := by simp [List.getD_eq_getElem?_getD, hi]
  rw [ex]
  obtain ⟨b0, n0, c0, rfl, rfl⟩ := hp
  rcases ho with ⟨_, _, h0, _⟩ | ⟨b1, c, cur, h1, h2, h4, h5, h6, rfl⟩
  · omega
  · simp only [Value.slice.injEq, Option.some.injEq, Addr.mk.injEq, and_true] at h1
    obtain ⟨rfl, rfl, rfl⟩ := h1
    refine ⟨b0, i * 3, cur, E, (0, 0), rfl, by simp, fun j u hj => ?_⟩
    rw [← e, List.getElem?_take] at hj
    split at hj
    · rename_i hj3
      rw [List.getElem?_drop, ← h6, List.getElem?_take] at hj
      split at hj
      · rw [← Array.getElem?_toList]; exact hj
      · cases hj
    · cases hj
section lits
variable {C : Cx} {dr : Bool} {ops : Array Oper} {Q : Post} {ims L : List Hp} {G : Env} {fl : List Bool} {rest : List Oper}
  {d ty : Nat} {pos : String} {af : Array Edge} {T E by' : Nat} {z : Value} {x y : Operand}
theorem kl_inQ {H : Hp} {v : Value} {xs : List Lit} {i : Nat} [hT : IsSlice C.P T E 3 by' z] (hx : ev G x = some v) (hy : ev G y = some (.int .i64 (i : Int))) (hv : Lits H v xs) (h1 : i < xs.length)
    (h : ∀ p, At H p [.int .i64 (xs.getD i nilLit).var, .int .i64 (xs.getD i nilLit).val, .bool (xs.getD i nilLit).neg] → KL C dr ops Q ims L fl.tail rest ((d, p) :: G)) (hlt : Nat.blt d C.n = true := by rfl) :
    KL C dr ops Q ims L fl (⟨some d, .indexAddr T x y, ty, pos, af, none⟩ :: rest) G :=
  kl_ix hx hy hv (by omega) (by omega) (fun p vs hR hat => by
    have e := hR nilLit
    unfold LitC at e; subst e
    exact h p hat) hlt
theorem kl_ixQ {H : Hp} {v : Value} {xs : List Lit} {i : Int} [hT : IsSlice C.P T E 3 by' z] (hx : ev G x = some v) (hy : ev G y = some (.int .i64 i)) (hv : Lits H v xs) (h0 : 0 ≤ i) (h1 : i < xs.length)
    (h : ∀ p, At H p [.int .i64 (xs.getD i.toNat nilLit).var, .int .i64 (xs.getD i.toNat nilLit).val, .bool (xs.getD i.toNat nilLit).neg] → KL C dr ops Q ims L fl.tail rest ((d, p) :: G)) (hlt : Nat.blt d C.n = true := by rfl) :
    KL C dr ops Q ims L fl (⟨some d, .indexAddr T x y, ty, pos, af, none⟩ :: rest) G :=
  kl_ix hx hy hv h0 h1 (fun p vs hR hat => by
    have e := hR nilLit
    unfold LitC at e; subst e
    exact h p hat) hlt
theorem fill_three {a b c : Value} : ∀ {cells : Array Value}, cells.size = 3 → Instr.fill (fun i => some (i * 3, 3)) cells [(0, .agg #[a, b, c])] = some #[a, b, c]
  | ⟨[c0, c1, c2]⟩, _ => rfl
/-- One literal in a list that is written out: fixed memory. -/
theorem kl_bsQ {a b : Int} {c : Bool} [hT : IsSlice C.P T E 3 by' z] {ps : List (Nat × Operand)} (hp : evp G ps = some [(0, .agg #[.int .i64 a, .int .i64 b, .bool c])])
    (h : ∀ v H, Fr C.B H → Rd H 3 v 1 [.int .i64 a, .int .i64 b, .bool c] → Lits H v [⟨a, b, c⟩] → KL C dr ops Q (H :: ims) L fl.tail rest ((d, v) :: G)) (hlt : Nat.blt d C.n = true := by rfl) (hfl : fl.headD false = false := by rfl) :
    KL C dr ops Q ims L fl (⟨some d, .buildSlice T 1 ps.toArray, ty, pos, af, none⟩ :: rest) G := by
  refine kl_newI (v := fun b => .slice (some ⟨b, 0, none⟩) 1 1) (o := .cells #[.int .i64 a, .int .i64 b, .bool c] E) (fun r w hr => ?_) (fun q hb => h _ _ (fr_sing hb) ?_ ?_) hlt hfl
  · have hps := evp_run hr hp
    have hz := hT.z
    have hzv : (zeroValue E).run C.P w = .ok z w := zeroValue_run (by obtain ⟨i, hi, hz', _⟩ := hT.info; simp [hi, hz']) w
    have key : (Instr.buildSlice T 1 [((0 : Nat), Value.agg #[.int .i64 a, .int .i64 b, .bool c])].toArray).run C.P w = .ok (.slice (some ⟨w.heap.size, 0, none⟩) 1 1) (w.alloc (.cells #[.int .i64 a, .int .i64 b, .bool c] E)) := by
      have hff := fill_three (a := .int .i64 a) (b := .int .i64 b) (c := .bool c) (cells := (Array.range (1 * 3)).map (z.cells[· % z.cells.size]!)) (by simp)
      simp only [Instr.buildSlice, Sem.run_bind, run_underlying hT.u, Result.andThen_ok, sizeOf_run hT.size]
      rw [if_neg (by decide), if_neg (by decide)]
      simp only [Sem.run_bind, hzv, Result.andThen_ok, Sem.run_pure, hff]
      rfl
    simp only [execOp, Sem.run_bind, List.map_toArray, hps, key, Result.andThen_ok, Sem.run_pure]
  · exact ⟨some ⟨q, 0, none⟩, 1, rfl, by simp, fun j u hj => ⟨q, 0, #[.int .i64 a, .int .i64 b, .bool c], E, (0, 0), rfl, by simp, by simpa using hj⟩⟩
  · refine ⟨some ⟨q, 0, none⟩, 1, rfl, by simp, by simp, fun i hi => ?_⟩
    have hi0 : i = 0 := by simpa using hi
    subst hi0
    exact ⟨q, 0, rfl, [.int .i64 a, .int .i64 b, .bool c], rfl, rfl, q, 0, #[.int .i64 a, .int .i64 b, .bool c], E, (0, 0), by simp, by simp, fun j u hj => by simpa using hj⟩
end lits
/-! A map with one entry. -/
class MapBI (P : Program) (T : Nat) : Prop where
  m : ∃ K E, P.underlying T = some (.map K E) ∧ P.underlying K = some .bool ∧ (P.info? E).map (·.zero) = some (some (.int .i64 0))
section maps
variable {C : Cx} {dr : Bool} {ops : Array Oper} {Q : Post} {ims L : List Hp} {G : Env} {fl : List Bool} {rest : List Oper}
  {d ty : Nat} {pos : String} {af : Array Edge} {T : Nat} {x y u : Operand}
theorem kl_mkMap (h : ∀ b, C.B.heap.size ≤ b → KL C dr ops Q ims (sing b (.map #[] 0) :: L) fl.tail rest ((d, .map (some b)) :: G)) (hlt : Nat.blt d C.n = true := by rfl) (hfl : fl.headD false = false := by rfl) :
    KL C dr ops Q ims L fl (⟨some d, .makeMap T none, ty, pos, af, none⟩ :: rest) G :=
  kl_new (v := fun b => .map (some b)) (fun r w hr => by
    simp only [execOp, Instr.makeMap, newObj, Option.map_none, Sem.run_bind, Sem.run_pure, Result.andThen_ok]
    rfl) h hlt hfl
theorem kl_insB {b : Nat} {k : Bool} {v : Value} {F : Hp → List Hp} [hT : MapBI C.P T] [hF : UpdF (sing b (.map #[] 0)) L F] (hx : ev G x = some (.map (some b))) (hy : ev G y = some (.bool k)) (hu : ev G u = some v)
    (h : KL C dr ops Q ims (F (sing b (.map #[⟨.bool k, v, 0⟩] 1))) fl.tail rest G) (hfl : fl.headD false = false := by rfl) (hdr : (!dr || rest.isEmpty) = true := by rfl) :
    KL C dr ops Q ims L fl (⟨none, .insert T x y u, ty, pos, af, none⟩ :: rest) G :=
  kl_act rfl hfl fun a w hf hs' => by
    have hup := hF.u (sing b (.map #[⟨.bool k, v, 0⟩] 1))
    have hown := hs'.own _ hup.mem
    have hb := hown.1 b _ (sing_self _ _)
    obtain ⟨K, E, h1, h2, h3⟩ := hT.m
    have hrun : (execOp a.eval ⟨none, .insert T x y u, ty, pos, af, none⟩).run C.P w = .ok .skip { w with heap := w.heap.setIfInBounds b (.map #[⟨.bool k, v, 0⟩] 1) } := by
      have hk : (Instr.findKey K (.bool k) []).run C.P w = .ok none w := MapKept.run_findKey h2 rfl
      simp [execOp, Instr.mapUpdate, Sem.run_bind, hf.ev hx, hf.ev hy, hf.ev hu, run_underlying h1, MapKept.run_getObj_map hb, MapKept.run_checkKey h2 (show MapKept.IsKey .bool (.bool k) from trivial), hk, MapKept.run_setObj_map _ hb, Result.andThen]
    unfold Oper.wp
    rw [hrun]
    refine ⟨ims, _, G, ?_, hf.putNone, ?_, h⟩
    · cases dr with
      | true => left; simpa using hdr
      | false => right; intro e; cases e
    · refine hs'.upd (u := ⟨hup⟩) (by simp) (fun b' _ hn => ?_) (fun b' o' hb' => ?_) (fun b' hb' => .inl ?_) ⟨rfl, rfl⟩
      · have hne : b' ≠ b := fun e => by subst e; simp at hn
        exact (MapKept.heap_set hb).2 b' hne
      · obtain ⟨rfl, rfl⟩ := sing_some hb'
        exact (MapKept.heap_set hb).1
      · by_cases e : b' = b
        · subst e; simp
        · simp [sing, e] at hb'
theorem kl_lkB {b : Nat} {k : Bool} [hT : MapBI C.P T] [hi : In (sing b (.map #[⟨.bool true, .int .i64 1, 0⟩] 1)) ims] (hx : ev G x = some (.map (some b))) (hy : ev G y = some (.bool k))
    (h : KL C dr ops Q ims L fl.tail rest ((d, .int .i64 (if k = true then 1 else 0)) :: G)) (hlt : Nat.blt d C.n = true := by rfl) :
    KL C dr ops Q ims L fl (⟨some d, .lookup T x y false, ty, pos, af, none⟩ :: rest) G :=
  kl_y (fun r w hr hs => by
    have hb := hs.im _ hi.mem b _ (sing_self _ _)
    obtain ⟨K, E, h1, h2, h3⟩ := hT.m
    cases k with
    | true =>
      have hk : (Instr.findKey K (.bool true) [⟨.bool true, .int .i64 1, 0⟩]).run C.P w = .ok (some (0, .int .i64 1)) w := MapKept.run_findKey h2 rfl
      simp [execOp, Instr.lookup, Sem.run_bind, hr _ _ hx, hr _ _ hy, run_underlying h1, MapKept.run_getObj_map hb, MapKept.run_checkKey h2 (show MapKept.IsKey .bool (.bool true) from trivial), hk, Result.andThen]
    | false =>
      have hk : (Instr.findKey K (.bool false) [⟨.bool true, .int .i64 1, 0⟩]).run C.P w = .ok none w := MapKept.run_findKey h2 rfl
      simp [execOp, Instr.lookup, Sem.run_bind, hr _ _ hx, hr _ _ hy, run_underlying h1, MapKept.run_getObj_map hb, MapKept.run_checkKey h2 (show MapKept.IsKey .bool (.bool false) from trivial), hk, zeroValue_run h3, Result.andThen]) h hlt
end maps
end
section
theorem Sl.dropR {A : Type} {H : Hp} {k : Nat} {R : List Value → A → Prop} {v : Value} {xs : List A} (hv : Sl H k R v xs) {j : Nat} (hj : j ≤ xs.length) :
    ∃ u, Sl H k R u (xs.drop j) ∧ ∀ (P : Program) (T E by' : Nat) (z : Value), IsSlice P T E k by' z → ∀ w, (Instr.sliceAt T v (some (.int .i64 (j : Int))) none none).run P w = .ok u w := by
  obtain ⟨a, c, rfl, h1, h2, h3⟩ := hv
  have hl : (xs.drop j).length = xs.length - j := by simp
  have hjc : j ≤ c := by omega
  have hel : ∀ i (hi : i < (xs.drop j).length), ∃ b o, a = some ⟨b, o, none⟩ ∧ ∃ vs, vs.length = k ∧ R vs (xs.drop j)[i] ∧ At H (.pointer (some ⟨b, (o + j * k) + i * k, none⟩)) vs := fun i hi => by
    obtain ⟨b, o, e, vs, l, r, t⟩ := h3 (j + i) (by omega)
    refine ⟨b, o, e, vs, l, by simpa using r, ?_⟩
    rw [Nat.add_mul, ← Nat.add_assoc] at t; exact t
  cases a with
  | none =>
    refine ⟨.slice none (xs.length - j) (c - j), ⟨none, c - j, by rw [hl], by omega, by omega, fun i hi => ?_⟩, fun P T E by' z hT w => ?_⟩
    · obtain ⟨b, o, e, _⟩ := hel i hi; cases e
    · simp [Instr.sliceAt, run_underlying hT.u, Instr.slice, Instr.sliceBounds, Instr.sliceBound, asIntOf, go_sem, sizeOf_run hT.size, hjc, hj]
  | some a =>
    refine ⟨.slice (some (if c = j then a else a.add (j * k))) (xs.length - j) (c - j), ⟨_, c - j, by rw [hl], by omega, by omega, fun i hi => ?_⟩, fun P T E by' z hT w => ?_⟩
    · obtain ⟨b, o, e, vs, l, r, t⟩ := hel i hi
      simp only [Option.some.injEq] at e
      subst e
      have hcj : c ≠ j := by omega
      exact ⟨b, o + j * k, by rw [if_neg hcj, Addr.add_lit], vs, l, r, t⟩
    · by_cases e : c = j
      · simp [Instr.sliceAt, run_underlying hT.u, Instr.slice, Instr.sliceBounds, Instr.sliceBound, asIntOf, go_sem, sizeOf_run hT.size, hjc, hj, e]
        try exact fun h => absurd rfl h
      · simp [Instr.sliceAt, run_underlying hT.u, Instr.slice, Instr.sliceBounds, Instr.sliceBound, asIntOf, go_sem, sizeOf_run hT.size, hjc, hj, e]
        try exact fun h => absurd h.symm e
class LitE (P : Program) (T : Nat) : Prop where
  f : ∃ a b c, P.underlying T = some (.struct (P.fieldsOf T)) ∧ ((P.fieldsOf T).toList.map fun f => (f.type, f.offset, decide (f.name ≠ "_"))) = [(a, 0, true), (b, 1, true), (c, 2, true)] ∧ P.underlying a = some (.int .i64) ∧ P.underlying b = some (.int .i64) ∧ P.underlying c = some .bool ∧
    (P.info? a).map (·.size) = some 1 ∧ (P.info? b).map (·.size) = some 1 ∧ (P.info? c).map (·.size) = some 1
  s : P.stoodInHeld T = false
  g : P.eqGuardType P.depth T = false
section subs
variable {C : Cx} {dr : Bool} {ops : Array Oper} {Q : Post} {ims L : List Hp} {G : Env} {fl : List Bool} {rest : List Oper}
  {d ty : Nat} {pos : String} {af : Array Edge}
theorem kl_slDrop {A : Type} {H : Hp} {k : Nat} {R : List Value → A → Prop} {v : Value} {xs : List A} {x y : Operand} {j : Nat} {T E by' : Nat} {z : Value} [hT : IsSlice C.P T E k by' z]
    (hx : ev G x = some v) (hy : ev G y = some (.int .i64 (j : Int))) (hv : Sl H k R v xs) (h1 : j ≤ xs.length)
    (h : ∀ u, Sl H k R u (xs.drop j) → KL C dr ops Q ims L fl.tail rest ((d, u) :: G)) (hlt : Nat.blt d C.n = true := by rfl) :
    KL C dr ops Q ims L fl (⟨some d, .slice T x (some y) none none, ty, pos, af, none⟩ :: rest) G := by
  obtain ⟨u, hu, hrun⟩ := hv.dropR h1
  refine kl_y (fun r w hr _ => ?_) (h u hu) hlt
  simp only [execOp, Sem.run_bind, hr _ _ hx, hr _ _ hy, Option.map_some, Option.map_none, hrun C.P T E by' z hT, Result.andThen_ok, Sem.run_pure]
theorem part_one {P : Program} {t : Nat} {xs : Array Value} {o : Nat} {v : Value} (hs : (P.info? t).map (·.size) = some 1) (ha : ∀ w, (isAgg t).run P w = .ok false w) (hv : xs[o]? = some v) (w : World) : (part t xs o).run P w = .ok v w := by
  have hlt := (Array.getElem?_eq_some_iff.1 hv).1
  have hve := (Array.getElem?_eq_some_iff.1 hv).2
  simp [part, go_sem, sizeOf_run hs, ha, hlt, hve]
theorem agg_int {P : Program} {t : Nat} (h : P.underlying t = some (.int .i64)) (w : World) : (isAgg t).run P w = .ok false w := by simp [isAgg, run_underlying h]
theorem agg_bool {P : Program} {t : Nat} (h : P.underlying t = some .bool) (w : World) : (isAgg t).run P w = .ok false w := by simp [isAgg, run_underlying h]
theorem eqLit_run {P : Program} {T : Nat} [h : LitE P T] (a1 a2 b1 b2 : Int) (a3 b3 : Bool) (w : World) : (Op.equalIn 10000 T (.agg #[.int .i64 a1, .int .i64 a2, .bool a3]) (.agg #[.int .i64 b1, .int .i64 b2, .bool b3])).run P w = .ok (decide ((⟨a1, a2, a3⟩ : Lit) = ⟨b1, b2, b3⟩)) w := by
  obtain ⟨a, b, c, hu, hf, ha, hb, hc, sa, sb, sc⟩ := h.f
  rw [run_equalIn_struct w 9999 T _ _ hu h.s]
  have hl3 : (P.fieldsOf T).toList.length = 3 := by have := congrArg List.length hf; simpa using this
  generalize (P.fieldsOf T).toList = fs at hf hl3 ⊢
  match fs, hl3 with
  | [f1, f2, f3], _ =>
    simp only [List.map_cons, List.map_nil, List.cons.injEq, Prod.mk.injEq, and_true, decide_eq_true_eq] at hf
    obtain ⟨⟨t1, o1, n1⟩, ⟨t2, o2, n2⟩, ⟨t3, o3, n3⟩⟩ := hf
    have e : decide ((⟨a1, a2, a3⟩ : Lit) = ⟨b1, b2, b3⟩) = ((a1 == b1) && ((a2 == b2) && (a3 == b3))) := by
      rw [Bool.eq_iff_iff]; simp
    rw [e]
    simp only [Op.eqFields, if_pos n1, if_pos n2, if_pos n3, Sem.run_bind, t1, t2, t3, o1, o2, o3,
      part_one sa (agg_int ha) (show (#[Value.int .i64 a1, Value.int .i64 a2, Value.bool a3])[0]? = some (Value.int .i64 a1) from rfl), part_one sa (agg_int ha) (show (#[Value.int .i64 b1, Value.int .i64 b2, Value.bool b3])[0]? = some (Value.int .i64 b1) from rfl), Result.andThen_ok, run_equalIn_int w 9998 a .i64 .i64 a1 b1 ha]
    cases (a1 == b1) with
    | false => rfl
    | true =>
      simp only [Bool.not_true, Bool.false_eq_true, if_false, Bool.true_and, Sem.run_bind, part_one sb (agg_int hb) (show (#[Value.int .i64 a1, Value.int .i64 a2, Value.bool a3])[1]? = some (Value.int .i64 a2) from rfl), part_one sb (agg_int hb) (show (#[Value.int .i64 b1, Value.int .i64 b2, Value.bool b3])[1]? = some (Value.int .i64 b2) from rfl), Result.andThen_ok, run_equalIn_int w 9998 b .i64 .i64 a2 b2 hb]
      cases (a2 == b2) with
      | false => rfl
      | true =>
        simp only [Bool.not_true, Bool.false_eq_true, if_false, Bool.true_and, Sem.run_bind, part_one sc (agg_bool hc) (show (#[Value.int .i64 a1, Value.int .i64 a2, Value.bool a3])[2]? = some (Value.bool a3) from rfl), part_one sc (agg_bool hc) (show (#[Value.int .i64 b1, Value.int .i64 b2, Value.bool b3])[2]? = some (Value.bool b3) from rfl), Result.andThen_ok, run_equalIn_bool' w 9998 c a3 b3 hc]
        cases (a3 == b3) <;> rfl
theorem kl_eqlQ {x y : Operand} {T T2 : Nat} {a1 a2 b1 b2 : Int} {a3 b3 : Bool} [hT : LitE C.P T] (hx : ev G x = some (.agg #[.int .i64 a1, .int .i64 a2, .bool a3])) (hy : ev G y = some (.agg #[.int .i64 b1, .int .i64 b2, .bool b3]))
    (h : KL C dr ops Q ims L fl.tail rest ((d, .bool (decide ((⟨a1, a2, a3⟩ : Lit) = ⟨b1, b2, b3⟩))) :: G)) (hlt : Nat.blt d C.n = true := by rfl) :
    KL C dr ops Q ims L fl (⟨some d, .binOp .eql T x y T2, ty, pos, af, none⟩ :: rest) G :=
  kl_y (fun r w hr _ => by
    simp only [execOp, Sem.run_bind, Sem.run_pure, Result.andThen_ok, hr _ _ hx, hr _ _ hy, run_eqGuard_agg w _ _ _ _ _ _ hT.g, run_eql_struct, eqLit_run]) h hlt
theorem kl_neqQ {x y : Operand} {T T2 : Nat} {a1 a2 b1 b2 : Int} {a3 b3 : Bool} [hT : LitE C.P T] (hx : ev G x = some (.agg #[.int .i64 a1, .int .i64 a2, .bool a3])) (hy : ev G y = some (.agg #[.int .i64 b1, .int .i64 b2, .bool b3]))
    (h : KL C dr ops Q ims L fl.tail rest ((d, .bool (!(decide ((⟨a1, a2, a3⟩ : Lit) = ⟨b1, b2, b3⟩)))) :: G)) (hlt : Nat.blt d C.n = true := by rfl) :
    KL C dr ops Q ims L fl (⟨some d, .binOp .neq T x y T2, ty, pos, af, none⟩ :: rest) G :=
  kl_y (fun r w hr _ => by
    simp only [execOp, Sem.run_bind, Sem.run_pure, Result.andThen_ok, hr _ _ hx, hr _ _ hy, run_eqGuard_agg w _ _ _ _ _ _ hT.g, run_neq_struct, eqLit_run]) h hlt
/-- One literal in a list that is written out: owned memory. -/
theorem kl_bsQo {a b : Int} {c : Bool} {T E by' : Nat} {z : Value} [hT : IsSlice C.P T E 3 by' z] {ps : List (Nat × Operand)} (hp : evp G ps = some [(0, .agg #[.int .i64 a, .int .i64 b, .bool c])])
    (h : ∀ v H, Fr C.B H → OwnL E 3 H noHp LitV v [⟨a, b, c⟩] → KL C dr ops Q ims (H :: L) fl.tail rest ((d, v) :: G)) (hlt : Nat.blt d C.n = true := by rfl) (hfl : fl.headD false = false := by rfl) :
    KL C dr ops Q ims L fl (⟨some d, .buildSlice T 1 ps.toArray, ty, pos, af, none⟩ :: rest) G := by
  refine kl_new (v := fun b => .slice (some ⟨b, 0, none⟩) 1 1) (o := .cells #[.int .i64 a, .int .i64 b, .bool c] E) (fun r w hr => ?_) (fun q hb => h _ _ (fr_sing hb) ⟨[.int .i64 a, .int .i64 b, .bool c], ⟨rfl, by simp, .inr ⟨q, 1, _, rfl, Nat.le_refl _, by simp only [maxLen]; omega, Nat.le_refl _, rfl, rfl⟩⟩, fun i hi => ?_⟩) hlt hfl
  · have hps := evp_run hr hp
    have hz := hT.z
    have hzv : (zeroValue E).run C.P w = .ok z w := zeroValue_run (by obtain ⟨i, hi, hz', _⟩ := hT.info; simp [hi, hz']) w
    have key : (Instr.buildSlice T 1 [((0 : Nat), Value.agg #[.int .i64 a, .int .i64 b, .bool c])].toArray).run C.P w = .ok (.slice (some ⟨w.heap.size, 0, none⟩) 1 1) (w.alloc (.cells #[.int .i64 a, .int .i64 b, .bool c] E)) := by
      have hff := fill_three (a := .int .i64 a) (b := .int .i64 b) (c := .bool c) (cells := (Array.range (1 * 3)).map (z.cells[· % z.cells.size]!)) (by simp)
      simp only [Instr.buildSlice, Sem.run_bind, run_underlying hT.u, Result.andThen_ok, sizeOf_run hT.size]
      rw [if_neg (by decide), if_neg (by decide)]
      simp only [Sem.run_bind, hzv, Result.andThen_ok, Sem.run_pure, hff]
      rfl
    simp only [execOp, Sem.run_bind, List.map_toArray, hps, key, Result.andThen_ok, Sem.run_pure]
  · have hi0 : i = 0 := by simpa using hi
    subst hi0; rfl
end subs
end
section
abbrev bxS (b : Nat) (l : List Value) (T : Nat) : Hp := sing b (.cells l.toArray T (0, 0))
theorem nsl {A : Type} {l : List A} : ([] : List A).Sublist l := List.nil_sublist l
def pkA (G : Env) : List Nat → Option Env
 | [] => some []
 | k :: ks => match look k G with
  | none => none
  | some v => match pkA G ks with
   | none => none
   | some r => some ((k, v) :: r)
theorem pk {G : Env} : ∀ (ks : List Nat) {G' : Env}, pkA G ks = some G' → Pick G G'
 | [], G', h => by simp only [pkA, Option.some.injEq] at h; subst h; exact pn
 | k :: ks, G', h => by
  unfold pkA at h
  split at h
  · cases h
  · rename_i v hv
    split at h
    · cases h
    · rename_i r hr
      simp only [Option.some.injEq] at h
      subst h
      exact pc k hv (pk ks hr)
theorem smpE : (∀ b : Bool, ((!b) = true) = (b = false)) ∧ (∀ b : Bool, ((!b) = false) = (b = true)) ∧ (!true) = false ∧ (!false) = true ∧ (∀ a b : Bool, ((a && b) = true) = (a = true ∧ b = true)) ∧ (∀ a b : Bool, ((a || b) = false) = (a = false ∧ b = false)) ∧ (∀ (p : Prop) [Decidable p], (decide p = true) = p) ∧ (∀ (p : Prop) [Decidable p], (decide p = false) = ¬p) :=
 ⟨smpC.1, smpC.2.1, smpC.2.2.1, smpC.2.2.2.1, smpC.2.2.2.2.1, smpC.2.2.2.2.2, fun p _ => by simp, fun p _ => by simp⟩
theorem smpD : (∀ b : Bool, ((!b) = true) = (b = false)) ∧ (∀ b : Bool, ((!b) = false) = (b = true)) ∧ (∀ a b : Bool, ((a && b) = true) = (a = true ∧ b = true)) ∧ (∀ a b : Bool, ((a || b) = false) = (a = false ∧ b = false)) ∧ (∀ (p : Prop) [Decidable p], (decide p = true) = p) ∧ (∀ (p : Prop) [Decidable p], (decide p = false) = ¬p) ∧ (∀ n lo hi : Int, (withinB n lo hi = true) = (lo ≤ n ∧ n ≤ hi)) :=
 ⟨smpC.1, smpC.2.1, smpC.2.2.2.2.1, smpC.2.2.2.2.2, fun p _ => by simp, fun p _ => by simp, fun _ _ _ => propext withinB_iff⟩
theorem tq {C : Cx} {ops : Array Oper} {Q : Post} {fx : Nat → Bool} {LS : List Hp} {fuel : Nat} {listed : Array Bool} {ims L : List Hp} {G : Env} (k : Nat) {o : Oper} (hl : LS.Sublist L) (ho : ops[k]? = some o)
  (h : KL C true ops (QP C ops (Only Q) fx LS fuel (listed.setIfInBounds k true) ims L) (LS ++ ims) [] [true] [o] G)
  (hB : (Region.noSelect ops && (Region.ready .any ops listed).contains k && Region.free .any ops listed k && (List.range ops.size).all (fun j => !(fx j) || listed.getD j false || waitsB .any ops ops.size j k)) = true := by kernel_rfl) : KT C ops (Only Q) fx LS (fuel + 1) listed ims L G := kt_q k hl ho hB h
theorem ta {C : Cx} {ops : Array Oper} {Q : Post} {fx : Nat → Bool} {LS : List Hp} {fuel : Nat} {listed : Array Bool} {ims L : List Hp} {G : Env} (k : Nat) {o : Oper} (ho : ops[k]? = some o)
  (h : KL C true ops (QA C ops Q fx LS k fuel (listed.setIfInBounds k true) ims) ims L [false] [o] G) (hB : (Region.ready .any ops listed == [k]) = true := by kernel_rfl) : KT C ops Q fx LS (fuel + 1) listed ims L G := kt_a k ho hB h
instance : IsSlice Tryz.prog 22 5 1 1 (.int .u8 0) := ⟨by kernel_rfl, by kernel_rfl, rfl, by decide⟩
instance : IsSlice Tryz.prog 23 3 1 8 (.int .i64 0) := ⟨by kernel_rfl, by kernel_rfl, rfl, by decide⟩
instance : IsSlice Tryz.prog 24 88 5 88 (.agg #[.int .i64 0, .slice none 0 0, .slice none 0 0, .int .i64 0, .slice none 0 0]) := ⟨by kernel_rfl, by kernel_rfl, rfl, by decide⟩
instance : IsSlice Tryz.prog 29 69 1 24 (.slice none 0 0) := ⟨by kernel_rfl, by kernel_rfl, rfl, by decide⟩
instance : IsSlice Tryz.prog 40 23 1 24 (.slice none 0 0) := ⟨by kernel_rfl, by kernel_rfl, rfl, by decide⟩
instance : IsSlice Tryz.prog 43 115 5 88 (.agg #[.int .i64 0, .slice none 0 0, .slice none 0 0, .int .i64 0, .slice none 0 0]) := ⟨by kernel_rfl, by kernel_rfl, rfl, by decide⟩
instance : IsSlice Tryz.prog 69 100 3 24 (.agg #[.int .i64 0, .int .i64 0, .bool false]) := ⟨by kernel_rfl, by kernel_rfl, rfl, by decide⟩
instance : OneC Tryz.prog 3 := ⟨by kernel_rfl, by kernel_rfl⟩
instance : OneC Tryz.prog 4 := ⟨by kernel_rfl, by kernel_rfl⟩
instance : OneC Tryz.prog 5 := ⟨by kernel_rfl, by kernel_rfl⟩
instance : OneC Tryz.prog 22 := ⟨by kernel_rfl, by kernel_rfl⟩
instance : OneC Tryz.prog 23 := ⟨by kernel_rfl, by kernel_rfl⟩
instance : OneC Tryz.prog 24 := ⟨by kernel_rfl, by kernel_rfl⟩
instance : OneC Tryz.prog 29 := ⟨by kernel_rfl, by kernel_rfl⟩
instance : OneC Tryz.prog 40 := ⟨by kernel_rfl, by kernel_rfl⟩
instance : OneC Tryz.prog 43 := ⟨by kernel_rfl, by kernel_rfl⟩
instance : OneC Tryz.prog 69 := ⟨by kernel_rfl, by kernel_rfl⟩
instance : OneC Tryz.prog 108 := ⟨by kernel_rfl, by kernel_rfl⟩
instance : OneC Tryz.prog 143 := ⟨by kernel_rfl, by kernel_rfl⟩
instance : OneC Tryz.prog 187 := ⟨by kernel_rfl, by kernel_rfl⟩
instance : AggC Tryz.prog 26 2 := ⟨by kernel_rfl, by kernel_rfl, by decide⟩
instance : AggC Tryz.prog 45 2 := ⟨by kernel_rfl, by kernel_rfl, by decide⟩
instance : AggC Tryz.prog 88 5 := ⟨by kernel_rfl, by kernel_rfl, by decide⟩
instance : AggC Tryz.prog 100 3 := ⟨by kernel_rfl, by kernel_rfl, by decide⟩
instance : AggC Tryz.prog 115 5 := ⟨by kernel_rfl, by kernel_rfl, by decide⟩
instance : ZeroC Tryz.prog 3 (.int .i64 0) := ⟨by kernel_rfl⟩
instance : ZeroC Tryz.prog 23 (.slice none 0 0) := ⟨by kernel_rfl⟩
instance : ZeroC Tryz.prog 26 (.agg #[.slice none 0 0, .slice none 0 0]) := ⟨by kernel_rfl⟩
instance : ZeroC Tryz.prog 29 (.slice none 0 0) := ⟨by kernel_rfl⟩
instance : ZeroC Tryz.prog 40 (.slice none 0 0) := ⟨by kernel_rfl⟩
instance : ZeroC Tryz.prog 88 (.agg #[.int .i64 0, .slice none 0 0, .slice none 0 0, .int .i64 0, .slice none 0 0]) := ⟨by kernel_rfl⟩
instance : ZeroC Tryz.prog 100 (.agg #[.int .i64 0, .int .i64 0, .bool false]) := ⟨by kernel_rfl⟩
instance : ZeroC Tryz.prog 143 (.nilFunc) := ⟨by kernel_rfl⟩
instance : ZeroC Tryz.prog 187 (.int .u64 0) := ⟨by kernel_rfl⟩
instance : IsInt Tryz.prog 3 .i64 := ⟨by kernel_rfl⟩
instance : IsInt Tryz.prog 5 .u8 := ⟨by kernel_rfl⟩
instance : IsInt Tryz.prog 154 .u64 := ⟨by kernel_rfl⟩
instance : IsInt Tryz.prog 163 .u32 := ⟨by kernel_rfl⟩
instance : IsInt Tryz.prog 165 .u64 := ⟨by kernel_rfl⟩
instance : IsInt Tryz.prog 187 .u64 := ⟨by kernel_rfl⟩
instance : IsBool Tryz.prog 4 := ⟨by kernel_rfl⟩
instance : IsStr Tryz.prog 9 := ⟨by kernel_rfl⟩
instance : LitE Tryz.prog 100 := ⟨⟨3, 3, 4, by kernel_rfl, by kernel_rfl, by kernel_rfl, by kernel_rfl, by kernel_rfl, by kernel_rfl, by kernel_rfl, by kernel_rfl⟩, by kernel_rfl, by kernel_rfl⟩
instance : MapBI Tryz.prog 172 := ⟨⟨_, _, Tryz.underlying172, by kernel_rfl, by kernel_rfl⟩⟩
instance : StrC Tryz.prog 26 [0, 1] [1, 1] [.slice none 0 0, .slice none 0 0] := ⟨by kernel_rfl, ⟨_, Tryz.underlying26, fun w => places2 rfl rfl rfl rfl (by kernel_rfl) (by kernel_rfl) w⟩⟩
instance : StrC Tryz.prog 84 [0, 1] [1, 1] [.slice none 0 0, .int .i64 0] := ⟨by kernel_rfl, ⟨_, Tryz.underlying84, fun w => places2 rfl rfl rfl rfl (by kernel_rfl) (by kernel_rfl) w⟩⟩
instance : StrC Tryz.prog 88 [0, 1, 2, 3, 4] [1, 1, 1, 1, 1] [.int .i64 0, .slice none 0 0, .slice none 0 0, .int .i64 0, .slice none 0 0] := ⟨by kernel_rfl, ⟨_, Tryz.underlying88, fun w => places5 rfl rfl rfl rfl rfl rfl rfl rfl rfl rfl (by kernel_rfl) (by kernel_rfl) (by kernel_rfl) (by kernel_rfl) (by kernel_rfl) w⟩⟩
instance : StrC Tryz.prog 97 [0, 2, 3] [2, 1, 1] [.slice none 0 0, .slice none 0 0, .slice none 0 0, .bool false] := ⟨by kernel_rfl, ⟨_, Tryz.underlying97, fun w => places3 rfl rfl rfl rfl rfl rfl (by kernel_rfl) (by kernel_rfl) (by kernel_rfl) w⟩⟩
instance : StrC Tryz.prog 100 [0, 1, 2] [1, 1, 1] [.int .i64 0, .int .i64 0, .bool false] := ⟨by kernel_rfl, ⟨_, Tryz.underlying100, fun w => places3 rfl rfl rfl rfl rfl rfl (by kernel_rfl) (by kernel_rfl) (by kernel_rfl) w⟩⟩
instance : StrC Tryz.prog 127 [0, 2, 3, 4] [2, 1, 1, 1] [.slice none 0 0, .slice none 0 0, .int .i64 0, .int .i64 0, .slice none 0 0] := ⟨by kernel_rfl, ⟨_, Tryz.underlying127, fun w => places4 rfl rfl rfl rfl rfl rfl rfl rfl (by kernel_rfl) (by kernel_rfl) (by kernel_rfl) (by kernel_rfl) w⟩⟩
instance : StrC Tryz.prog 170 [0, 5, 6, 7] [5, 1, 1, 1] [.int .i64 0, .slice none 0 0, .slice none 0 0, .int .i64 0, .slice none 0 0, .slice none 0 0, .slice none 0 0, .slice none 0 0] := ⟨by kernel_rfl, ⟨_, Tryz.underlying170, fun w => places4 rfl rfl rfl rfl rfl rfl rfl rfl (by kernel_rfl) (by kernel_rfl) (by kernel_rfl) (by kernel_rfl) w⟩⟩
instance : FieldC Tryz.prog 26 0 0 := ⟨⟨_, _, Tryz.underlying26, rfl, rfl, by kernel_rfl⟩⟩
instance : FieldC Tryz.prog 26 1 1 := ⟨⟨_, _, Tryz.underlying26, rfl, rfl, by kernel_rfl⟩⟩
instance : FieldC Tryz.prog 45 0 0 := ⟨⟨_, _, Tryz.underlying45, rfl, rfl, by kernel_rfl⟩⟩
instance : FieldC Tryz.prog 45 1 1 := ⟨⟨_, _, Tryz.underlying45, rfl, rfl, by kernel_rfl⟩⟩
instance : FieldC Tryz.prog 84 0 0 := ⟨⟨_, _, Tryz.underlying84, rfl, rfl, by kernel_rfl⟩⟩
instance : FieldC Tryz.prog 84 1 1 := ⟨⟨_, _, Tryz.underlying84, rfl, rfl, by kernel_rfl⟩⟩
instance : FieldC Tryz.prog 88 0 0 := ⟨⟨_, _, Tryz.underlying88, rfl, rfl, by kernel_rfl⟩⟩
instance : FieldC Tryz.prog 88 1 1 := ⟨⟨_, _, Tryz.underlying88, rfl, rfl, by kernel_rfl⟩⟩
instance : FieldC Tryz.prog 88 2 2 := ⟨⟨_, _, Tryz.underlying88, rfl, rfl, by kernel_rfl⟩⟩
instance : FieldC Tryz.prog 88 3 3 := ⟨⟨_, _, Tryz.underlying88, rfl, rfl, by kernel_rfl⟩⟩
instance : FieldC Tryz.prog 88 4 4 := ⟨⟨_, _, Tryz.underlying88, rfl, rfl, by kernel_rfl⟩⟩
instance : FieldC Tryz.prog 97 0 0 := ⟨⟨_, _, Tryz.underlying97, rfl, rfl, by kernel_rfl⟩⟩
instance : FieldC Tryz.prog 97 1 2 := ⟨⟨_, _, Tryz.underlying97, rfl, rfl, by kernel_rfl⟩⟩
instance : FieldC Tryz.prog 97 2 3 := ⟨⟨_, _, Tryz.underlying97, rfl, rfl, by kernel_rfl⟩⟩
instance : FieldC Tryz.prog 100 0 0 := ⟨⟨_, _, Tryz.underlying100, rfl, rfl, by kernel_rfl⟩⟩
instance : FieldC Tryz.prog 100 1 1 := ⟨⟨_, _, Tryz.underlying100, rfl, rfl, by kernel_rfl⟩⟩
instance : FieldC Tryz.prog 100 2 2 := ⟨⟨_, _, Tryz.underlying100, rfl, rfl, by kernel_rfl⟩⟩
instance : FieldC Tryz.prog 115 0 0 := ⟨⟨_, _, Tryz.underlying115, rfl, rfl, by kernel_rfl⟩⟩
instance : FieldC Tryz.prog 115 1 1 := ⟨⟨_, _, Tryz.underlying115, rfl, rfl, by kernel_rfl⟩⟩
instance : FieldC Tryz.prog 115 2 2 := ⟨⟨_, _, Tryz.underlying115, rfl, rfl, by kernel_rfl⟩⟩
instance : FieldC Tryz.prog 115 3 3 := ⟨⟨_, _, Tryz.underlying115, rfl, rfl, by kernel_rfl⟩⟩
instance : FieldC Tryz.prog 115 4 4 := ⟨⟨_, _, Tryz.underlying115, rfl, rfl, by kernel_rfl⟩⟩
instance : FieldC Tryz.prog 127 0 0 := ⟨⟨_, _, Tryz.underlying127, rfl, rfl, by kernel_rfl⟩⟩
instance : FieldC Tryz.prog 127 1 2 := ⟨⟨_, _, Tryz.underlying127, rfl, rfl, by kernel_rfl⟩⟩
instance : FieldC Tryz.prog 127 2 3 := ⟨⟨_, _, Tryz.underlying127, rfl, rfl, by kernel_rfl⟩⟩
instance : FieldC Tryz.prog 127 3 4 := ⟨⟨_, _, Tryz.underlying127, rfl, rfl, by kernel_rfl⟩⟩
instance : FieldC Tryz.prog 170 0 0 := ⟨⟨_, _, Tryz.underlying170, rfl, rfl, by kernel_rfl⟩⟩
instance : FieldC Tryz.prog 170 1 5 := ⟨⟨_, _, Tryz.underlying170, rfl, rfl, by kernel_rfl⟩⟩
instance : FieldC Tryz.prog 170 2 6 := ⟨⟨_, _, Tryz.underlying170, rfl, rfl, by kernel_rfl⟩⟩
instance : FieldC Tryz.prog 170 3 7 := ⟨⟨_, _, Tryz.underlying170, rfl, rfl, by kernel_rfl⟩⟩
instance : FnC Tryz.prog 7 := fnC_of Tryz.func7 rfl (by kernel_rfl)
instance : FnC Tryz.prog 8 := fnC_of Tryz.func8 rfl (by kernel_rfl)
instance : FnC Tryz.prog 9 := fnC_of Tryz.func9 rfl (by kernel_rfl)
instance : FnC Tryz.prog 10 := fnC_of Tryz.func10 rfl (by kernel_rfl)
instance : FnC Tryz.prog 11 := fnC_of Tryz.func11 rfl (by kernel_rfl)
instance : FnC Tryz.prog 12 := fnC_of Tryz.func12 rfl (by kernel_rfl)
instance : FnC Tryz.prog 13 := fnC_of Tryz.func13 rfl (by kernel_rfl)
instance : FnC Tryz.prog 14 := fnC_of Tryz.func14 rfl (by kernel_rfl)
instance : FnC Tryz.prog 15 := fnC_of Tryz.func15 rfl (by kernel_rfl)
instance : FnC Tryz.prog 16 := fnC_of Tryz.func16 rfl (by kernel_rfl)
instance : FnC Tryz.prog 17 := fnC_of Tryz.func17 rfl (by kernel_rfl)
instance : FnC Tryz.prog 18 := fnC_of Tryz.func18 rfl (by kernel_rfl)
instance : FnC Tryz.prog 19 := fnC_of Tryz.func19 rfl (by kernel_rfl)
instance : FnC Tryz.prog 20 := fnC_of Tryz.func20 rfl (by kernel_rfl)
instance : FnC Tryz.prog 21 := fnC_of Tryz.func21 rfl (by kernel_rfl)
instance : FnC Tryz.prog 22 := fnC_of Tryz.func22 rfl (by kernel_rfl)
instance : FnC Tryz.prog 23 := fnC_of Tryz.func23 rfl (by kernel_rfl)
instance : FnC Tryz.prog 24 := fnC_of Tryz.func24 rfl (by kernel_rfl)
instance : FnC Tryz.prog 25 := fnC_of Tryz.func25 rfl (by kernel_rfl)
instance : FnC Tryz.prog 26 := fnC_of Tryz.func26 rfl (by kernel_rfl)
instance : FnC Tryz.prog 27 := fnC_of Tryz.func27 rfl (by kernel_rfl)
instance : FnC Tryz.prog 28 := fnC_of Tryz.func28 rfl (by kernel_rfl)
instance : FnC Tryz.prog 29 := fnC_of Tryz.func29 rfl (by kernel_rfl)
instance : FnC Tryz.prog 30 := fnC_of Tryz.func30 rfl (by kernel_rfl)
instance : FnC Tryz.prog 31 := fnC_of Tryz.func31 rfl (by kernel_rfl)
instance : FnC Tryz.prog 32 := fnC_of Tryz.func32 rfl (by kernel_rfl)
instance : FnC Tryz.prog 33 := fnC_of Tryz.func33 rfl (by kernel_rfl)
instance : FnC Tryz.prog 34 := fnC_of Tryz.func34 rfl (by kernel_rfl)
instance : FnC Tryz.prog 35 := fnC_of Tryz.func35 rfl (by kernel_rfl)
instance : FnC Tryz.prog 36 := fnC_of Tryz.func36 rfl (by kernel_rfl)
instance : FnC Tryz.prog 37 := fnC_of Tryz.func37 rfl (by kernel_rfl)
instance : FnC Tryz.prog 38 := fnC_of Tryz.func38 rfl (by kernel_rfl)
instance : FnC Tryz.prog 39 := fnC_of Tryz.func39 rfl (by kernel_rfl)
instance : FnC Tryz.prog 40 := fnC_of Tryz.func40 rfl (by kernel_rfl)
instance : FnC Tryz.prog 41 := fnC_of Tryz.func41 rfl (by kernel_rfl)
instance : FnC Tryz.prog 42 := fnC_of Tryz.func42 rfl (by kernel_rfl)
instance : FnC Tryz.prog 43 := fnC_of Tryz.func43 rfl (by kernel_rfl)
instance : FnC Tryz.prog 44 := fnC_of Tryz.func44 rfl (by kernel_rfl)
instance : FnC Tryz.prog 45 := fnC_of Tryz.func45 rfl (by kernel_rfl)
instance : FnC Tryz.prog 46 := fnC_of Tryz.func46 rfl (by kernel_rfl)
instance : FnC Tryz.prog 47 := fnC_of Tryz.func47 rfl (by kernel_rfl)
instance : FnC Tryz.prog 48 := fnC_of Tryz.func48 rfl (by kernel_rfl)
instance : FnC Tryz.prog 49 := fnC_of Tryz.func49 rfl (by kernel_rfl)
instance : FnC Tryz.prog 50 := fnC_of Tryz.func50 rfl (by kernel_rfl)
instance : FnC Tryz.prog 51 := fnC_of Tryz.func51 rfl (by kernel_rfl)
instance : FnC Tryz.prog 52 := fnC_of Tryz.func52 rfl (by kernel_rfl)
instance : FnC Tryz.prog 53 := fnC_of Tryz.func53 rfl (by kernel_rfl)
instance : FnC Tryz.prog 54 := fnC_of Tryz.func54 rfl (by kernel_rfl)
instance : FnC Tryz.prog 55 := fnC_of Tryz.func55 rfl (by kernel_rfl)
instance : FnC Tryz.prog 56 := fnC_of Tryz.func56 rfl (by kernel_rfl)
instance : FnC Tryz.prog 57 := fnC_of Tryz.func57 rfl (by kernel_rfl)
instance : FnC Tryz.prog 58 := fnC_of Tryz.func58 rfl (by kernel_rfl)
instance : FnC Tryz.prog 59 := fnC_of Tryz.func59 rfl (by kernel_rfl)
instance : FnC Tryz.prog 60 := fnC_of Tryz.func60 rfl (by kernel_rfl)
instance : FnC Tryz.prog 61 := fnC_of Tryz.func61 rfl (by kernel_rfl)
instance : FnC Tryz.prog 62 := fnC_of Tryz.func62 rfl (by kernel_rfl)
instance : FnC Tryz.prog 63 := fnC_of Tryz.func63 rfl (by kernel_rfl)
instance : FnC Tryz.prog 64 := fnC_of Tryz.func64 rfl (by kernel_rfl)
instance : FnC Tryz.prog 65 := fnC_of Tryz.func65 rfl (by kernel_rfl)
instance : FnC Tryz.prog 66 := fnC_of Tryz.func66 rfl (by kernel_rfl)
instance : FnC Tryz.prog 67 := fnC_of Tryz.func67 rfl (by kernel_rfl)
instance : FnC Tryz.prog 68 := fnC_of Tryz.func68 rfl (by kernel_rfl)
instance : FnC Tryz.prog 69 := fnC_of Tryz.func69 rfl (by kernel_rfl)
instance : FnC Tryz.prog 70 := fnC_of Tryz.func70 rfl (by kernel_rfl)
instance : FnC Tryz.prog 71 := fnC_of Tryz.func71 rfl (by kernel_rfl)
instance : FnC Tryz.prog 72 := fnC_of Tryz.func72 rfl (by kernel_rfl)
instance : FnC Tryz.prog 73 := fnC_of Tryz.func73 rfl (by kernel_rfl)
instance : FnC Tryz.prog 74 := fnC_of Tryz.func74 rfl (by kernel_rfl)
instance : FnC Tryz.prog 75 := fnC_of Tryz.func75 rfl (by kernel_rfl)
instance : FnC Tryz.prog 76 := fnC_of Tryz.func76 rfl (by kernel_rfl)
instance : FnC Tryz.prog 77 := fnC_of Tryz.func77 rfl (by kernel_rfl)
instance : FnC Tryz.prog 78 := fnC_of Tryz.func78 rfl (by kernel_rfl)
instance : FnC Tryz.prog 79 := fnC_of Tryz.func79 rfl (by kernel_rfl)
instance : FnC Tryz.prog 80 := fnC_of Tryz.func80 rfl (by kernel_rfl)
instance : FnC Tryz.prog 81 := fnC_of Tryz.func81 rfl (by kernel_rfl)
instance : FnC Tryz.prog 82 := fnC_of Tryz.func82 rfl (by kernel_rfl)
instance : FnC Tryz.prog 83 := fnC_of Tryz.func83 rfl (by kernel_rfl)
instance : FnC Tryz.prog 84 := fnC_of Tryz.func84 rfl (by kernel_rfl)
instance : FnC Tryz.prog 85 := fnC_of Tryz.func85 rfl (by kernel_rfl)
instance : FnC Tryz.prog 86 := fnC_of Tryz.func86 rfl (by kernel_rfl)
instance : FnC Tryz.prog 87 := fnC_of Tryz.func87 rfl (by kernel_rfl)
instance : FnC Tryz.prog 88 := fnC_of Tryz.func88 rfl (by kernel_rfl)
instance : FnC Tryz.prog 89 := fnC_of Tryz.func89 rfl (by kernel_rfl)
instance : FnC Tryz.prog 90 := fnC_of Tryz.func90 rfl (by kernel_rfl)
instance : FnC Tryz.prog 91 := fnC_of Tryz.func91 rfl (by kernel_rfl)
instance : FnC Tryz.prog 92 := fnC_of Tryz.func92 rfl (by kernel_rfl)
instance : FnC Tryz.prog 93 := fnC_of Tryz.func93 rfl (by kernel_rfl)
instance : FnC Tryz.prog 94 := fnC_of Tryz.func94 rfl (by kernel_rfl)
instance : FnC Tryz.prog 95 := fnC_of Tryz.func95 rfl (by kernel_rfl)
instance : FnC Tryz.prog 96 := fnC_of Tryz.func96 rfl (by kernel_rfl)
instance : FnC Tryz.prog 97 := fnC_of Tryz.func97 rfl (by kernel_rfl)
instance : FnC Tryz.prog 98 := fnC_of Tryz.func98 rfl (by kernel_rfl)
instance : FnC Tryz.prog 99 := fnC_of Tryz.func99 rfl (by kernel_rfl)
instance : FnC Tryz.prog 100 := fnC_of Tryz.func100 rfl (by kernel_rfl)
instance : FnC Tryz.prog 101 := fnC_of Tryz.func101 rfl (by kernel_rfl)
instance : FnC Tryz.prog 102 := fnC_of Tryz.func102 rfl (by kernel_rfl)
instance : FnC Tryz.prog 103 := fnC_of Tryz.func103 rfl (by kernel_rfl)
instance : FnC Tryz.prog 104 := fnC_of Tryz.func104 rfl (by kernel_rfl)
instance : FnC Tryz.prog 105 := fnC_of Tryz.func105 rfl (by kernel_rfl)
instance : FnC Tryz.prog 106 := fnC_of Tryz.func106 rfl (by kernel_rfl)
instance : FnC Tryz.prog 107 := fnC_of Tryz.func107 rfl (by kernel_rfl)
instance : FnC Tryz.prog 108 := fnC_of Tryz.func108 rfl (by kernel_rfl)
instance : FnC Tryz.prog 109 := fnC_of Tryz.func109 rfl (by kernel_rfl)
instance : FnC Tryz.prog 110 := fnC_of Tryz.func110 rfl (by kernel_rfl)
instance : FnC Tryz.prog 111 := fnC_of Tryz.func111 rfl (by kernel_rfl)
instance : FnC Tryz.prog 112 := fnC_of Tryz.func112 rfl (by kernel_rfl)
instance : FnC Tryz.prog 113 := fnC_of Tryz.func113 rfl (by kernel_rfl)
instance : FnC Tryz.prog 114 := fnC_of Tryz.func114 rfl (by kernel_rfl)
instance : FnC Tryz.prog 115 := fnC_of Tryz.func115 rfl (by kernel_rfl)
instance : FnC Tryz.prog 116 := fnC_of Tryz.func116 rfl (by kernel_rfl)
instance : FnC Tryz.prog 117 := fnC_of Tryz.func117 rfl (by kernel_rfl)
instance : FnC Tryz.prog 118 := fnC_of Tryz.func118 rfl (by kernel_rfl)
instance : FnC Tryz.prog 119 := fnC_of Tryz.func119 rfl (by kernel_rfl)
instance : FnC Tryz.prog 120 := fnC_of Tryz.func120 rfl (by kernel_rfl)
instance : FnC Tryz.prog 121 := fnC_of Tryz.func121 rfl (by kernel_rfl)
instance : FnC Tryz.prog 122 := fnC_of Tryz.func122 rfl (by kernel_rfl)
instance : FnC Tryz.prog 123 := fnC_of Tryz.func123 rfl (by kernel_rfl)
instance : FnC Tryz.prog 124 := fnC_of Tryz.func124 rfl (by kernel_rfl)
instance : FnC Tryz.prog 125 := fnC_of Tryz.func125 rfl (by kernel_rfl)
instance : FnC Tryz.prog 126 := fnC_of Tryz.func126 rfl (by kernel_rfl)
instance : FnC Tryz.prog 127 := fnC_of Tryz.func127 rfl (by kernel_rfl)
instance : FnC Tryz.prog 128 := fnC_of Tryz.func128 rfl (by kernel_rfl)
instance : FnC Tryz.prog 129 := fnC_of Tryz.func129 rfl (by kernel_rfl)
instance : FnC Tryz.prog 130 := fnC_of Tryz.func130 rfl (by kernel_rfl)
instance : FnC Tryz.prog 131 := fnC_of Tryz.func131 rfl (by kernel_rfl)
instance : FnC Tryz.prog 132 := fnC_of Tryz.func132 rfl (by kernel_rfl)
instance : FnC Tryz.prog 133 := fnC_of Tryz.func133 rfl (by kernel_rfl)
instance : FnC Tryz.prog 134 := fnC_of Tryz.func134 rfl (by kernel_rfl)
instance : FnC Tryz.prog 135 := fnC_of Tryz.func135 rfl (by kernel_rfl)
instance : FnC Tryz.prog 136 := fnC_of Tryz.func136 rfl (by kernel_rfl)
instance : FnC Tryz.prog 137 := fnC_of Tryz.func137 rfl (by kernel_rfl)
instance : FnC Tryz.prog 138 := fnC_of Tryz.func138 rfl (by kernel_rfl)
instance : FnC Tryz.prog 139 := fnC_of Tryz.func139 rfl (by kernel_rfl)
instance : FnC Tryz.prog 140 := fnC_of Tryz.func140 rfl (by kernel_rfl)
instance : FnC Tryz.prog 141 := fnC_of Tryz.func141 rfl (by kernel_rfl)
instance : FnC Tryz.prog 142 := fnC_of Tryz.func142 rfl (by kernel_rfl)
instance : FnC Tryz.prog 143 := fnC_of Tryz.func143 rfl (by kernel_rfl)
instance : FnC Tryz.prog 144 := fnC_of Tryz.func144 rfl (by kernel_rfl)
instance : FnC Tryz.prog 145 := fnC_of Tryz.func145 rfl (by kernel_rfl)
instance : FnC Tryz.prog 146 := fnC_of Tryz.func146 rfl (by kernel_rfl)
instance : FnC Tryz.prog 147 := fnC_of Tryz.func147 rfl (by kernel_rfl)
instance : FnC Tryz.prog 148 := fnC_of Tryz.func148 rfl (by kernel_rfl)
instance : FnC Tryz.prog 149 := fnC_of Tryz.func149 rfl (by kernel_rfl)
instance : FnC Tryz.prog 150 := fnC_of Tryz.func150 rfl (by kernel_rfl)
instance : FnC Tryz.prog 151 := fnC_of Tryz.func151 rfl (by kernel_rfl)
instance : FnC Tryz.prog 152 := fnC_of Tryz.func152 rfl (by kernel_rfl)
instance : FnC Tryz.prog 153 := fnC_of Tryz.func153 rfl (by kernel_rfl)
instance : FnC Tryz.prog 154 := fnC_of Tryz.func154 rfl (by kernel_rfl)
instance : FnC Tryz.prog 155 := fnC_of Tryz.func155 rfl (by kernel_rfl)
instance : FnC Tryz.prog 156 := fnC_of Tryz.func156 rfl (by kernel_rfl)
instance : FnC Tryz.prog 157 := fnC_of Tryz.func157 rfl (by kernel_rfl)
instance : FnC Tryz.prog 158 := fnC_of Tryz.func158 rfl (by kernel_rfl)
instance : FnC Tryz.prog 159 := fnC_of Tryz.func159 rfl (by kernel_rfl)
instance : FnC Tryz.prog 160 := fnC_of Tryz.func160 rfl (by kernel_rfl)
instance : FnC Tryz.prog 161 := fnC_of Tryz.func161 rfl (by kernel_rfl)
instance : FnC Tryz.prog 162 := fnC_of Tryz.func162 rfl (by kernel_rfl)
instance : FnC Tryz.prog 163 := fnC_of Tryz.func163 rfl (by kernel_rfl)
instance : FnC Tryz.prog 164 := fnC_of Tryz.func164 rfl (by kernel_rfl)
instance : FnC Tryz.prog 165 := fnC_of Tryz.func165 rfl (by kernel_rfl)
instance : FnC Tryz.prog 166 := fnC_of Tryz.func166 rfl (by kernel_rfl)
instance : FnC Tryz.prog 167 := fnC_of Tryz.func167 rfl (by kernel_rfl)
instance : FnC Tryz.prog 168 := fnC_of Tryz.func168 rfl (by kernel_rfl)
instance : FnC Tryz.prog 169 := fnC_of Tryz.func169 rfl (by kernel_rfl)
instance : FnC Tryz.prog 170 := fnC_of Tryz.func170 rfl (by kernel_rfl)
instance : FnC Tryz.prog 171 := fnC_of Tryz.func171 rfl (by kernel_rfl)
instance : FnC Tryz.prog 172 := fnC_of Tryz.func172 rfl (by kernel_rfl)
instance : FnC Tryz.prog 173 := fnC_of Tryz.func173 rfl (by kernel_rfl)
instance : FnC Tryz.prog 174 := fnC_of Tryz.func174 rfl (by kernel_rfl)
instance : FnC Tryz.prog 175 := fnC_of Tryz.func175 rfl (by kernel_rfl)
instance : FnC Tryz.prog 176 := fnC_of Tryz.func176 rfl (by kernel_rfl)
instance : FnC Tryz.prog 177 := fnC_of Tryz.func177 rfl (by kernel_rfl)
instance : FnC Tryz.prog 178 := fnC_of Tryz.func178 rfl (by kernel_rfl)
instance : FnC Tryz.prog 179 := fnC_of Tryz.func179 rfl (by kernel_rfl)
instance : FnC Tryz.prog 180 := fnC_of Tryz.func180 rfl (by kernel_rfl)
instance : FnC Tryz.prog 181 := fnC_of Tryz.func181 rfl (by kernel_rfl)
instance : FnC Tryz.prog 182 := fnC_of Tryz.func182 rfl (by kernel_rfl)
instance : FnC Tryz.prog 183 := fnC_of Tryz.func183 rfl (by kernel_rfl)
instance : FnC Tryz.prog 184 := fnC_of Tryz.func184 rfl (by kernel_rfl)
instance : FnC Tryz.prog 185 := fnC_of Tryz.func185 rfl (by kernel_rfl)
instance : FnC Tryz.prog 186 := fnC_of Tryz.func186 rfl (by kernel_rfl)
instance : FnC Tryz.prog 187 := fnC_of Tryz.func187 rfl (by kernel_rfl)
instance : FnC Tryz.prog 188 := fnC_of Tryz.func188 rfl (by kernel_rfl)
instance : FnC Tryz.prog 189 := fnC_of Tryz.func189 rfl (by kernel_rfl)
instance : FnC Tryz.prog 190 := fnC_of Tryz.func190 rfl (by kernel_rfl)
instance : FnC Tryz.prog 191 := fnC_of Tryz.func191 rfl (by kernel_rfl)
instance : FnC Tryz.prog 192 := fnC_of Tryz.func192 rfl (by kernel_rfl)
instance : FnC Tryz.prog 193 := fnC_of Tryz.func193 rfl (by kernel_rfl)
instance : FnC Tryz.prog 194 := fnC_of Tryz.func194 rfl (by kernel_rfl)
instance : FnC Tryz.prog 195 := fnC_of Tryz.func195 rfl (by kernel_rfl)
instance : FnC Tryz.prog 196 := fnC_of Tryz.func196 rfl (by kernel_rfl)
instance : FnC Tryz.prog 197 := fnC_of Tryz.func197 rfl (by kernel_rfl)
instance : FnC Tryz.prog 198 := fnC_of Tryz.func198 rfl (by kernel_rfl)
instance : FnC Tryz.prog 199 := fnC_of Tryz.func199 rfl (by kernel_rfl)
instance : FnC Tryz.prog 200 := fnC_of Tryz.func200 rfl (by kernel_rfl)
instance : FnC Tryz.prog 201 := fnC_of Tryz.func201 rfl (by kernel_rfl)
instance : FnC Tryz.prog 202 := fnC_of Tryz.func202 rfl (by kernel_rfl)
instance : FnC Tryz.prog 203 := fnC_of Tryz.func203 rfl (by kernel_rfl)
instance : FnC Tryz.prog 204 := fnC_of Tryz.func204 rfl (by kernel_rfl)
instance : FnC Tryz.prog 205 := fnC_of Tryz.func205 rfl (by kernel_rfl)
instance : FnC Tryz.prog 206 := fnC_of Tryz.func206 rfl (by kernel_rfl)
instance : FnC Tryz.prog 207 := fnC_of Tryz.func207 rfl (by kernel_rfl)
instance : FnC Tryz.prog 208 := fnC_of Tryz.func208 rfl (by kernel_rfl)
instance : FnC Tryz.prog 209 := fnC_of Tryz.func209 rfl (by kernel_rfl)
instance : FnC Tryz.prog 210 := fnC_of Tryz.func210 rfl (by kernel_rfl)
instance : FnC Tryz.prog 211 := fnC_of Tryz.func211 rfl (by kernel_rfl)
instance : FnC Tryz.prog 212 := fnC_of Tryz.func212 rfl (by kernel_rfl)
instance : FnC Tryz.prog 213 := fnC_of Tryz.func213 rfl (by kernel_rfl)
instance : FnC Tryz.prog 214 := fnC_of Tryz.func214 rfl (by kernel_rfl)
instance : FnC Tryz.prog 215 := fnC_of Tryz.func215 rfl (by kernel_rfl)
instance : FnC Tryz.prog 216 := fnC_of Tryz.func216 rfl (by kernel_rfl)
instance : FnC Tryz.prog 217 := fnC_of Tryz.func217 rfl (by kernel_rfl)
instance : FnC Tryz.prog 218 := fnC_of Tryz.func218 rfl (by kernel_rfl)
end
end Go.Proofs.YtolndgeihijlbaaGreat
