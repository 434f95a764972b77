/- Plain functions on lists and models: what the program's functions come to. No program in sight. Conditions: none. -/
import Derived.Test.YtojinjdobjodaaaGreatFin
import Derived.Laws.BitsLemmas
import Derived.Test.YtojinjdobjodaaaGreatMut
namespace Go.Proofs.YtojinjdobjodaaaGreat
open Go
set_option linter.unusedSimpArgs false
set_option linter.unusedVariables false

theorem litInts {H : Hp} {v : Value} {xs : List Int} (h : Sl H 1 (fun cs u => cs = [u]) v (xs.map (Value.int .i64))) : Ints H v xs := by
  obtain ⟨a, c, hv, h1, h2, h3⟩ := h
  simp only [List.length_map] at hv h1 h2 h3
  refine ⟨a, c, hv, h1, h2, fun i hi => ?_⟩
  obtain ⟨b, o, e, vs, hl, hr, hat⟩ := h3 i hi
  exact ⟨b, o, e, vs, hl, (by simpa using hr : vs = [_]), hat⟩
/-! Lists. -/
theorem getD_mem {A : Type} {xs : List A} {i : Nat} {d : A} (h : i < xs.length) : xs.getD i d ∈ xs := by
  rw [List.getD_eq_getElem?_getD, List.getElem?_eq_getElem h]; simp
theorem take_succ_getD {A : Type} {xs : List A} {k : Nat} (d : A) (h : k < xs.length) : xs.take (k + 1) = xs.take k ++ [xs.getD k d] := by
  rw [List.take_succ_eq_append_getElem h, List.getD_eq_getElem?_getD, List.getElem?_eq_getElem h]; simp
theorem all_take_step {A : Type} {xs : List A} {k : Nat} {p : A → Bool} {d : A} (h : k < xs.length) (hp : (xs.take k).all p = true) (hk : p (xs.getD k d) = true) : (xs.take (k + 1)).all p = true := by
  rw [take_succ_getD d h, List.all_append, hp]; simp at hk ⊢; exact hk
theorem all_false {A : Type} {xs : List A} {k : Nat} {p : A → Bool} {d : A} (h : k < xs.length) (hk : p (xs.getD k d) = false) : xs.all p = false := by
  rw [List.all_eq_false]; exact ⟨xs.getD k d, getD_mem h, by rw [hk]; simp⟩
theorem any_take_step {A : Type} {xs : List A} {k : Nat} {p : A → Bool} {d : A} (h : k < xs.length) (hp : (xs.take k).any p = false) (hk : p (xs.getD k d) = false) : (xs.take (k + 1)).any p = false := by
  rw [take_succ_getD d h, List.any_append, hp]; simp at hk ⊢; exact hk
theorem any_true {A : Type} {xs : List A} {k : Nat} {p : A → Bool} {d : A} (h : k < xs.length) (hk : p (xs.getD k d) = true) : xs.any p = true := by
  rw [List.any_eq_true]; exact ⟨_, getD_mem h, hk⟩

def withinB (n lo hi : Int) : Bool := decide (lo ≤ n) && decide (n ≤ hi)
theorem withinB_iff {n lo hi : Int} : withinB n lo hi = true ↔ lo ≤ n ∧ n ≤ hi := by simp [withinB]
/-- The first index whose element answers yes, or -1. -/
def indexBy {A : Type} (p : A → Bool) (xs : List A) : Int := match xs.findIdx? p with | some i => (i : Int) | none => -1
theorem indexBy_hit {A : Type} {p : A → Bool} {xs : List A} {k : Nat} {d : A} (hk : k < xs.length) (hp : (xs.take k).any p = false) (h : p (xs.getD k d) = true) : (k : Int) = indexBy p xs := by
  have : xs.findIdx? p = some k := by
    rw [List.findIdx?_eq_some_iff_getElem]
    refine ⟨hk, ?_, fun j hj => ?_⟩
    · rw [List.getD_eq_getElem?_getD, List.getElem?_eq_getElem hk] at h; simpa using h
    · rw [List.any_eq_false] at hp
      have := hp (xs[j]) (by rw [List.mem_take_iff_getElem]; exact ⟨j, by omega, rfl⟩)
      simpa using this
  simp [indexBy, this]
theorem indexBy_none {A : Type} {p : A → Bool} {xs : List A} {k : Nat} (hk : ¬ (k : Int) < (xs.length : Int)) (hp : (xs.take k).any p = false) : (-1 : Int) = indexBy p xs := by
  have : xs.findIdx? p = none := by
    rw [List.findIdx?_eq_none_iff]
    intro x hx
    rw [List.take_of_length_le (by omega), List.any_eq_false] at hp
    simpa using hp x hx
  simp [indexBy, this]
theorem indexBy_any {A : Type} (p : A → Bool) (xs : List A) : decide ((0 : Int) ≤ indexBy p xs) = xs.any p := by
  unfold indexBy
  cases h : xs.findIdx? p with
  | none =>
    have : xs.any p = false := by rw [List.any_eq_false]; intro x hx; have := (List.findIdx?_eq_none_iff.1 h) x hx; simp [this]
    simp [this]
  | some i =>
    have := (List.findIdx?_eq_some_iff_getElem.1 h)
    obtain ⟨h1, h2, _⟩ := this
    have : xs.any p = true := by rw [List.any_eq_true]; exact ⟨xs[i], List.getElem_mem h1, h2⟩
    simp [this]
def allInB (xs : List Int) (lo hi : Int) : Bool := xs.all fun n => withinB n lo hi
def distinctB (xs : List Int) : Bool := decide xs.Nodup
theorem nodup_take_succ {xs : List Int} {k : Nat} (h : k < xs.length) : (xs.take (k + 1)).Nodup ↔ (xs.take k).Nodup ∧ xs.getD k 0 ∉ xs.take k := by
  rw [take_succ_getD 0 h, List.nodup_append]
  constructor
  · rintro ⟨h1, _, h2⟩; exact ⟨h1, fun h3 => h2 _ h3 _ (.head _) rfl⟩
  · rintro ⟨h1, h2⟩; exact ⟨h1, by simp, fun a ha b hb e => h2 (by have hb' := List.mem_singleton.1 hb; subst hb'; exact e ▸ ha)⟩
theorem nodup_not {xs : List Int} {k : Nat} (h : k < xs.length) (hm : xs.getD k 0 ∈ xs.take k) : ¬ xs.Nodup := fun hn => by
  have := (nodup_take_succ h).1 (hn.sublist (List.take_sublist _ _))
  exact this.2 hm

/-! Models. -/
def validDomB (d : Int) : Bool := withinB d 0 63
def rowsInB (rows : List (List Int)) (n lo hi : Int) : Bool := withinB rows.length 1 8 && rows.all fun r => decide ((r.length : Int) = n) && allInB r lo hi
def fitsB (c : Con) : Bool :=
  if c.kind = 1 then (decide ((c.args.length : Int) = c.vars.length) && allInB c.args (-9) 9) && withinB c.bound (-999) 999 && decide ((c.rows.length : Int) = 0)
  else if c.kind = 2 then decide ((c.vars.length : Int) = 2) && (decide ((c.args.length : Int) = 1) && allInB c.args (-9) 9) && decide (c.bound = 0) && decide ((c.rows.length : Int) = 0)
  else if c.kind = 3 ∨ c.kind = 9 then decide ((c.args.length : Int) = 0) && decide (c.bound = 0) && decide ((c.rows.length : Int) = 0)
  else if c.kind = 4 then decide ((c.vars.length : Int) = 2) && withinB c.args.length 1 6 && allInB c.args 0 5 && decide (c.bound = 0) && decide ((c.rows.length : Int) = 0)
  else if c.kind = 5 then decide ((c.args.length : Int) = 0) && decide (c.bound = 0) && rowsInB c.rows c.vars.length 0 5
  else if c.kind = 6 then (decide ((c.args.length : Int) = 1) && allInB c.args 0 5) && withinB c.bound 0 4 && decide ((c.rows.length : Int) = 0)
  else if c.kind = 7 then (decide ((c.args.length : Int) = 2 * c.vars.length) && allInB c.args 0 9) && withinB c.bound 0 9 && decide ((c.rows.length : Int) = 0)
  else if c.kind = 8 then rowsInB c.rows 6 (-1) (c.rows.length - 1) && distinctB c.args && allInB c.args 0 (c.rows.length - 1) && decide (c.bound = 0)
  else false
def validConB (c : Con) (n : Int) : Bool := withinB n 1 4 && withinB c.vars.length 1 n && allInB c.vars 0 (n - 1) && distinctB c.vars && fitsB c
def domainsOkB (ds : List Int) : Bool := withinB ds.length 1 4 && allInB ds 0 63
def validModB (m : Mod) : Bool := domainsOkB m.doms && decide ((m.cons.length : Int) ≤ 6) && m.cons.all fun c => validConB c m.doms.length
end Go.Proofs.YtojinjdobjodaaaGreat
namespace Go.Proofs.YtojinjdobjodaaaGreat
open Go
set_option linter.unusedSimpArgs false
set_option linter.unusedVariables false
theorem not_mem_k2 {xs : List Int} {k j : Nat} (h : k ≤ j) (ha : (xs.take j).all (fun y => decide (xs.getD k 0 ≠ y)) = true) : xs.getD k 0 ∉ xs.take k := fun hm => by
  rw [List.all_eq_true] at ha
  have := ha _ ((List.take_subset_take_left xs h) hm)
  simp at this
theorem mem_take_of {xs : List Int} {k i : Nat} (h : k < i) (hi : i < xs.length) (e : xs.getD i 0 = xs.getD k 0) : xs.getD i 0 ∈ xs.take i := by
  rw [e, List.getD_eq_getElem?_getD, List.getElem?_eq_getElem (by omega)]
  simp only [Option.getD_some]
  rw [List.mem_take_iff_getElem]; exact ⟨k, by omega, rfl⟩
theorem rowBad {a n : Int} {b : Bool} (h : (decide (a ≠ n) || !b) = true) : (decide (a = n) && b) = false := by simp at h; cases b <;> simp_all
theorem rowGood {a n : Int} {b : Bool} (h : ¬ a ≠ n ∧ b = true) : (decide (a = n) && b) = true := by simp at h; simp [h]
def validConS (c : Con) (n : Int) : Bool := withinB c.vars.length 1 n && allInB c.vars 0 (n - 1) && distinctB c.vars && fitsB c
theorem conS_no {c : Con} {n : Int} (h : (!withinB c.vars.length 1 n || !allInB c.vars 0 (n - 1) || !distinctB c.vars) = true) : false = validConS c n := by
  simp only [validConS]; revert h; cases withinB (c.vars.length : Int) 1 n <;> cases allInB c.vars 0 (n - 1) <;> cases distinctB c.vars <;> simp
theorem conS_yes {c : Con} {n : Int} {b : Bool} (h : (!withinB c.vars.length 1 n || !allInB c.vars 0 (n - 1) || !distinctB c.vars) = false) (hb : b = fitsB c) : b = validConS c n := by
  simp only [validConS, hb]; revert h; cases withinB (c.vars.length : Int) 1 n <;> cases allInB c.vars 0 (n - 1) <;> cases distinctB c.vars <;> simp
theorem validModB_d {m : Mod} {k : Nat} (hk : k < m.doms.length) (h : validDomB (m.doms.getD k 0) = false) : false = validModB m := by
  have : allInB m.doms 0 63 = false := all_false (d := 0) hk h
  simp [validModB, domainsOkB, this]
theorem validModB_c {m : Mod} {k : Nat} (hk : k < m.cons.length) (h : validConS (m.cons.getD k nilCon) m.doms.length = false) : false = validModB m := by
  have : (m.cons.all fun c => validConB c m.doms.length) = false := all_false (d := nilCon) hk (by
    simp only [validConS] at h; simp only [validConB, Bool.and_assoc] at h ⊢; rw [h]; simp)
  simp only [validModB, this, Bool.and_false]
theorem validModB_all {m : Mod} (h : m.doms.all validDomB = true) (hc : (m.cons.all fun c => validConS c m.doms.length) = true) :
    (withinB m.doms.length 1 4 && decide ((m.cons.length : Int) ≤ 6)) = validModB m := by
  have h' : allInB m.doms 0 63 = true := h
  simp only [validModB, domainsOkB, h', Bool.and_true]
  cases hw : withinB (m.doms.length : Int) 1 4 with
  | false => simp
  | true =>
    have : (m.cons.all fun c => validConB c m.doms.length) = true := by
      rw [← hc]; congr 1; funext c; simp only [validConB, validConS, hw, Bool.true_and]
    simp [this]
theorem contains_hit {xs : List Int} {n : Int} {k : Nat} (hk : k < xs.length) (h : xs.getD k 0 = n) : true = xs.contains n := by
  symm; rw [List.contains_iff_mem]; exact h ▸ getD_mem hk
theorem contains_none {xs : List Int} {n : Int} {k : Nat} (hk : ¬ (k : Int) < (xs.length : Int)) (h : (xs.take k).any (fun y => decide (y = n)) = false) : false = xs.contains n := by
  rw [List.take_of_length_le (by omega), List.any_eq_false] at h
  symm; rw [← Bool.not_eq_true, List.contains_iff_mem]; intro hm
  have := h n hm; simp at this
/-- Two different variables occur together in a constraint. -/
def joins (u v : Int) (c : Con) : Bool := decide (u ≠ v) && c.vars.contains u && c.vars.contains v
def adjB (cons : List Con) (u v : Int) : Bool := cons.any (joins u v)
end Go.Proofs.YtojinjdobjodaaaGreat
namespace Go.Proofs.YtojinjdobjodaaaGreat
open Go
set_option linter.unusedSimpArgs false
set_option linter.unusedVariables false
instance : DecidableEq Con := fun a b => decidable_of_iff (a.kind = b.kind ∧ a.vars = b.vars ∧ a.args = b.args ∧ a.bound = b.bound ∧ a.rows = b.rows) (by cases a; cases b; simp)
instance : DecidableEq Mod := fun a b => decidable_of_iff (a.doms = b.doms ∧ a.cons = b.cons) (by cases a; cases b; simp)
theorem OwnL.cast {A : Type} {E k : Nat} {H K : Hp} {R : Hp → List Value → A → Prop} {v : Value} {xs ys : List A} (e : xs = ys) (h : OwnL E k H K R v xs) : OwnL E k H K R v ys := e ▸ h
theorem OwnL.rowsK {E : Nat} {H K : Hp} {v : Value} {xs : List (List Int)} (h : OwnL E 1 H K RowV v xs) (c : Cmp H K) : Rows (orHp H K) v xs := (h.mono (K' := orHp H K) (orC c)).sl orL (fun _ _ h => h)
theorem OwnL.consK {E : Nat} {H K : Hp} {v : Value} {xs : List Con} (h : OwnL E 5 H K ConV v xs) (c : Cmp H K) : Cons (orHp H K) v xs := (h.mono (K' := orHp H K) (orC c)).sl orL (fun _ _ h => h)
/-! Sizes. -/
def szB (left n : Int) : Int := if left - n < 0 then -1 else left - n
theorem szB_neg {l n : Int} (h : l - n < 0) : (-1 : Int) = szB l n := by simp [szB, h]
theorem szB_pos {l n x : Int} (h : x = l - n) (h0 : 0 ≤ x) : x = szB l n := by simp only [szB]; split <;> omega
theorem szB_ok {l n : Int} (h : ¬ szB l n < 0) : szB l n = l - n ∧ 0 ≤ l - n := by simp only [szB] at *; split at h <;> simp_all <;> omega
theorem szB_lt {l n : Int} (h : szB l n < 0) : l - n < 0 := by simp only [szB] at *; split at h <;> omega
def rsum (xs : List (List Int)) : Nat := (xs.map List.length).sum
def conN (c : Con) : Nat := c.vars.length + c.args.length + (c.rows.length + rsum c.rows)
def csum (cs : List Con) : Nat := (cs.map conN).sum
def modN (m : Mod) : Nat := m.doms.length + (m.cons.length + csum m.cons)
theorem rsum_step {xs : List (List Int)} {k : Nat} (h : k < xs.length) : rsum (xs.take (k + 1)) = rsum (xs.take k) + (xs.getD k []).length := by
  rw [take_succ_getD [] h]; simp [rsum]
theorem csum_step {xs : List Con} {k : Nat} (h : k < xs.length) : csum (xs.take (k + 1)) = csum (xs.take k) + conN (xs.getD k nilCon) := by
  rw [take_succ_getD nilCon h]; simp [csum]
theorem sum_take_le (xs : List Nat) (k : Nat) : (xs.take k).sum ≤ xs.sum := by
  conv => rhs; rw [← List.take_append_drop k xs, List.sum_append]
  omega
theorem rsum_le (xs : List (List Int)) (k : Nat) : rsum (xs.take k) ≤ rsum xs := by simp only [rsum, List.map_take]; exact sum_take_le _ _
theorem csum_le (xs : List Con) (k : Nat) : csum (xs.take k) ≤ csum xs := by simp only [csum, List.map_take]; exact sum_take_le _ _
theorem le_sum_of {xs : List Nat} {n : Nat} (h : n ∈ xs) : n ≤ xs.sum := by
  induction xs with
  | nil => cases h
  | cons x xs ih =>
    simp only [List.sum_cons]
    cases h with
    | head => omega
    | tail _ h => have := ih h; omega
theorem rsum_mem {xs : List (List Int)} {r : List Int} (h : r ∈ xs) : r.length ≤ rsum xs := le_sum_of (List.mem_map.2 ⟨r, h, rfl⟩)
theorem csum_mem {xs : List Con} {c : Con} (h : c ∈ xs) : conN c ≤ csum xs := le_sum_of (List.mem_map.2 ⟨c, h, rfl⟩)
def SmallC (c : Con) : Prop := conN c ≤ 1048576
def SmallM (m : Mod) : Prop := modN m ≤ 1048576
theorem SmallC.vars {c : Con} (h : SmallC c) : c.vars.length ≤ 1048576 := by simp only [SmallC, conN] at h; omega
theorem SmallC.args {c : Con} (h : SmallC c) : c.args.length ≤ 1048576 := by simp only [SmallC, conN] at h; omega
theorem SmallC.rows {c : Con} (h : SmallC c) : c.rows.length ≤ 1048576 := by simp only [SmallC, conN] at h; omega
theorem SmallC.row {c : Con} (h : SmallC c) : ∀ r ∈ c.rows, r.length ≤ 1048576 := fun r hr => by
  have := rsum_mem hr; simp only [SmallC, conN] at h; omega
theorem SmallM.doms {m : Mod} (h : SmallM m) : m.doms.length ≤ 1048576 := by simp only [SmallM, modN] at h; omega
theorem SmallM.cons {m : Mod} (h : SmallM m) : m.cons.length ≤ 1048576 := by simp only [SmallM, modN] at h; omega
theorem SmallM.con {m : Mod} (h : SmallM m) : ∀ c ∈ m.cons, SmallC c := fun c hc => by
  have := csum_mem hc; simp only [SmallM, SmallC, modN] at *; omega
/-! Copies. -/
theorem fill_step {A : Type} {xs : List A} {z : A} {k : Nat} (d : A) (h : k < xs.length) :
    (xs.take k ++ List.replicate (xs.length - k) z).set k (xs.getD k d) = xs.take (k + 1) ++ List.replicate (xs.length - (k + 1)) z := by
  rw [List.set_append_right _ _ (by simp; omega), take_succ_getD d h, List.append_assoc]
  congr 1
  obtain ⟨j, hj⟩ : ∃ j, xs.length - k = j + 1 := ⟨xs.length - k - 1, by omega⟩
  have e1 : xs.length - (k + 1) = j := by omega
  have e2 : min k xs.length = k := by omega
  simp only [hj, e1, e2, List.length_take, Nat.sub_self, List.replicate_succ, List.set_cons_zero, List.singleton_append]
theorem fill_end {A : Type} {xs : List A} {z : A} {k : Nat} (h : ¬ (k : Int) < (xs.length : Int)) : xs.take k ++ List.replicate (xs.length - k) z = xs := by
  rw [List.take_of_length_le (by omega), show xs.length - k = 0 by omega]; simp
/-! Comparisons. -/
theorem eq_len {A : Type} [DecidableEq A] {a b : List A} (h : (a.length : Int) ≠ b.length) : false = decide (a = b) := by
  symm; rw [decide_eq_false_iff_not]; rintro rfl; exact h rfl
theorem eq_at {A : Type} [DecidableEq A] {a b : List A} {k : Nat} (d : A) (h : a.getD k d ≠ b.getD k d) : false = decide (a = b) := by
  symm; rw [decide_eq_false_iff_not]; rintro rfl; exact h rfl
theorem eq_step {A : Type} {a b : List A} {k : Nat} (d : A) (h : k < a.length) (hl : (a.length : Int) = b.length) (h1 : a.take k = b.take k) (h2 : a.getD k d = b.getD k d) : a.take (k + 1) = b.take (k + 1) := by
  rw [take_succ_getD d h, take_succ_getD d (by omega), h1, h2]
theorem eq_end {A : Type} [DecidableEq A] {a b : List A} {k : Nat} (hk : ¬ (k : Int) < (a.length : Int)) (hl : (a.length : Int) = b.length) (h1 : a.take k = b.take k) : true = decide (a = b) := by
  rw [List.take_of_length_le (by omega), List.take_of_length_le (by omega)] at h1; simp [h1]
theorem eqCon_iff {a b : Con} : decide (a = b) = (decide (a.kind = b.kind) && decide (a.vars = b.vars) && decide (a.args = b.args) && decide (a.bound = b.bound) && decide (a.rows = b.rows)) := by
  cases a; cases b; simp [and_assoc, ← Bool.decide_and]
theorem eqMod_iff {a b : Mod} : decide (a = b) = (decide (a.doms = b.doms) && decide (a.cons = b.cons)) := by
  cases a; cases b; simp [← Bool.decide_and]
end Go.Proofs.YtojinjdobjodaaaGreat
namespace Go.Proofs.YtojinjdobjodaaaGreat
open Go
set_option linter.unusedSimpArgs false
set_option linter.unusedVariables false
theorem wraps_i64 (n : Int) (h₀ : 0 ≤ n) (h₁ : n < 2 ^ 63) : IntKind.i64.wrap n = n := by rw [IntKind.wrap_i64]; omega
theorem ior_nat {a b : Nat} (ha : a < 2 ^ 63) (hb : b < 2 ^ 63) : ior (a : Int) (b : Int) = ((a ||| b : Nat) : Int) := (bits_nat .i64 63 (by decide) wraps_i64 a b ha hb).2
theorem iand_nat {a b : Nat} (ha : a < 2 ^ 63) (hb : b < 2 ^ 63) : iand (a : Int) (b : Int) = ((a &&& b : Nat) : Int) := (bits_nat .i64 63 (by decide) wraps_i64 a b ha hb).1
theorem ishl_one {b : Nat} (hb : b < 63) : ishl 1 (b : Int) = ((2 ^ b : Nat) : Int) := by
  simp only [ishl, Int.toNat_natCast, Int.one_mul, Nat.min_eq_left (show b ≤ 64 by omega)]
  rw [wraps_i64 _ (by exact Int.pow_nonneg (by decide)) (by exact_mod_cast Nat.pow_lt_pow_right (by decide) hb)]
  simp
theorem ishr_nat {a i : Nat} (hi : i ≤ 64) : ishr (a : Int) (i : Int) = ((a >>> i : Nat) : Int) := by
  simp only [ishr, Int.toNat_natCast, Nat.min_eq_left hi, Nat.shiftRight_eq_div_pow]
  rw [Int.fdiv_eq_ediv_of_nonneg _ (Int.pow_nonneg (by decide))]
  simp
def hasB (m i : Int) : Bool := decide (iand (ishr m i) 1 = 1)
theorem hasB_nat {m i : Nat} (hm : m < 2 ^ 63) (hi : i ≤ 64) : hasB (m : Int) (i : Int) = m.testBit i := by
  have h1 : m >>> i < 2 ^ 63 := Nat.lt_of_le_of_lt (by rw [Nat.shiftRight_eq_div_pow]; exact Nat.div_le_self _ _) hm
  simp only [hasB, ishr_nat hi]
  rw [show ((1 : Int)) = ((1 : Nat) : Int) from rfl, iand_nat h1 (by decide), Nat.testBit, Nat.and_comm]
  simp only [Nat.one_and_eq_mod_two]
  rcases Nat.mod_two_eq_zero_or_one (m >>> i) with h | h <;> simp [h]
/-! The graph. -/
def gB (a : Int) (g : List Int) (b : Int) : List Int := if a ≠ b then g.set a.toNat (ior (g.getD a.toNat 0) (ishl 1 b)) else g
def gA (vs : List Int) (g : List Int) (a : Int) : List Int := vs.foldl (gB a) g
def gC (g : List Int) (c : Con) : List Int := c.vars.foldl (gA c.vars) g
def graphI (m : Mod) : List Int := m.cons.foldl gC (List.replicate m.doms.length 0)
/-- The variables of all constraints are indexes below n. -/
def InN (cons : List Con) (n : Nat) : Prop := ∀ c ∈ cons, ∀ a ∈ c.vars, (0 : Int) ≤ a ∧ a < n
/-- A list of masks that hold exactly the pairs of p. -/
def MaskG (n : Nat) (g : List Int) (p : Nat → Nat → Prop) : Prop := g.length = n ∧ ∀ a, a < n → ∃ x : Nat, g.getD a 0 = (x : Int) ∧ ∀ b, x.testBit b = true ↔ b < n ∧ p a b
theorem MaskG.congr {n : Nat} {g : List Int} {p q : Nat → Nat → Prop} (h : MaskG n g p) (e : ∀ a b, p a b ↔ q a b) : MaskG n g q :=
  ⟨h.1, fun a ha => by obtain ⟨x, h1, h2⟩ := h.2 a ha; exact ⟨x, h1, fun b => by rw [h2, e]⟩⟩
theorem lt_of_bits {x n : Nat} (h : ∀ b, x.testBit b = true → b < n) : x < 2 ^ n := Nat.lt_pow_two_of_testBit _ (fun i hi => by
  cases hx : x.testBit i with
  | false => rfl
  | true => have := h i hx; omega)
theorem MaskG.gB {n : Nat} {g : List Int} {p : Nat → Nat → Prop} (hn : n ≤ 62) (h : MaskG n g p) {a b : Int} (ha : 0 ≤ a ∧ a < n) (hb : 0 ≤ b ∧ b < n) :
    MaskG n (gB a g b) (fun x y => p x y ∨ ((x : Int) = a ∧ (y : Int) = b ∧ a ≠ b)) := by
  unfold Go.Proofs.YtojinjdobjodaaaGreat.gB
  by_cases e : a = b
  · simp only [e, ne_eq, not_true_eq_false, if_false]
    exact h.congr (fun x y => by simp)
  · simp only [ne_eq, e, not_false_eq_true, if_true]
    obtain ⟨a, rfl⟩ := Int.eq_ofNat_of_zero_le ha.1
    obtain ⟨b, rfl⟩ := Int.eq_ofNat_of_zero_le hb.1
    have ha' : a < n := by omega
    have hb' : b < n := by omega
    obtain ⟨x, h1, h2⟩ := h.2 a ha'
    have hx : x < 2 ^ 63 := Nat.lt_of_lt_of_le (lt_of_bits (n := n) (fun b hb => ((h2 b).1 hb).1)) (Nat.pow_le_pow_right (by decide) (by omega))
    have hp : 2 ^ b < 2 ^ 63 := Nat.pow_lt_pow_right (by decide) (by omega)
    simp only [Int.toNat_natCast]
    rw [h1, ishl_one (by omega), ior_nat hx hp]
    refine ⟨by simpa using h.1, fun a' ha2 => ?_⟩
    by_cases ea : a' = a
    · subst ea
      refine ⟨x ||| 2 ^ b, by simp [List.getD_eq_getElem?_getD, List.getElem?_set, h.1, ha'], fun y => ?_⟩
      rw [Nat.testBit_or, Bool.or_eq_true, h2, Nat.testBit_two_pow]
      simp only [decide_eq_true_eq]
      constructor
      · rintro (h | h)
        · exact ⟨h.1, .inl h.2⟩
        · subst h; exact ⟨hb', .inr (by simp [e])⟩
      · rintro ⟨h, h3 | h3⟩
        · exact .inl ⟨h, h3⟩
        · right; omega
    · obtain ⟨x', h3, h4⟩ := h.2 a' ha2
      refine ⟨x', by rw [← h3]; simp [List.getD_eq_getElem?_getD, List.getElem?_set, Ne.symm ea], fun y => ?_⟩
      rw [h4]
      constructor
      · rintro ⟨h5, h6⟩; exact ⟨h5, .inl h6⟩
      · rintro ⟨h5, h6 | h6⟩
        · exact ⟨h5, h6⟩
        · omega
theorem MaskG.gA {n : Nat} (hn : n ≤ 62) {a : Int} (ha : 0 ≤ a ∧ a < n) : ∀ {vs : List Int} {g : List Int} {p : Nat → Nat → Prop}, MaskG n g p → (∀ b ∈ vs, 0 ≤ b ∧ b < n) →
    MaskG n (gA vs g a) (fun x y => p x y ∨ ((x : Int) = a ∧ (y : Int) ∈ vs ∧ x ≠ y))
  | [], g, p, h, _ => h.congr (fun x y => by simp)
  | v :: vs, g, p, h, hb => by
    have h1 := (h.gB hn ha (hb v (.head _)))
    have h2 := MaskG.gA hn ha (vs := vs) h1 (fun b hm => hb b (.tail _ hm))
    refine h2.congr (fun x y => ?_)
    simp only [List.mem_cons]
    constructor
    · rintro ((h | ⟨h3, h4, h5⟩) | ⟨h3, h4, h5⟩)
      · exact .inl h
      · exact .inr ⟨h3, .inl h4, by omega⟩
      · exact .inr ⟨h3, .inr h4, h5⟩
    · rintro (h | ⟨h3, h4 | h4, h5⟩)
      · exact .inl (.inl h)
      · exact .inl (.inr ⟨h3, h4, by omega⟩)
      · exact .inr ⟨h3, h4, h5⟩
end Go.Proofs.YtojinjdobjodaaaGreat
namespace Go.Proofs.YtojinjdobjodaaaGreat
open Go
set_option linter.unusedSimpArgs false
set_option linter.unusedVariables false
/-! The program's way. -/
def lkTo (g : List Int) (w o : Int) (k : Nat) : Int := (List.range k).foldl (fun x (i : Nat) => if hasB o (i : Int) = true then ior x (iandNot (g.getD i 0) w) else x) o
def lkIter (g : List Int) (w : Int) : Nat → Int → Int
  | 0, o => o
  | f + 1, o => if lkTo g w o g.length = o then o else lkIter g w f (lkTo g w o g.length)
def linkedI (m : Mod) (v w : Int) : Int := lkIter (graphI m) w 16 (ishl 1 v)
/-- A path from v through indexes outside w. -/
inductive Conn (n : Nat) (p : Nat → Nat → Prop) (w : Nat → Prop) (v : Nat) : Nat → Prop where
  | refl : Conn n p w v v
  | step {a b : Nat} : Conn n p w v a → p a b → b < n → ¬ w b → Conn n p w v b
end Go.Proofs.YtojinjdobjodaaaGreat
namespace Go.Proofs.YtojinjdobjodaaaGreat
open Go
set_option linter.unusedSimpArgs false
set_option linter.unusedVariables false
def ROk (n : Nat) (out : List Int) : Prop := out.Nodup ∧ ∀ x ∈ out, (0 : Int) ≤ x ∧ x < n
theorem nodup_len : ∀ (n : Nat) (out : List Int), out.Nodup → (∀ x ∈ out, (0 : Int) ≤ x ∧ x < n) → out.length ≤ n
  | 0, [], _, _ => Nat.le_refl _
  | 0, x :: xs, _, h => by have := h x (.head _); omega
  | n + 1, out, hd, h => by
    have h1 : (out.filter (fun x => decide (x ≠ (n : Int)))).length ≤ n := nodup_len n _ (hd.filter _) (fun x hx => by
      obtain ⟨h2, h3⟩ := List.mem_filter.1 hx
      have := h x h2
      have h4 : x ≠ (n : Int) := by simpa using h3
      omega)
    have h2 : out.length ≤ (out.filter (fun x => decide (x ≠ (n : Int)))).length + 1 := by
      clear h1 h
      induction out with
      | nil => simp
      | cons x xs ih =>
        have hx := List.nodup_cons.1 hd
        by_cases e : x = (n : Int)
        · subst e
          have : (xs.filter (fun x => decide (x ≠ (n : Int)))) = xs := List.filter_eq_self.2 (fun a ha => by
            have : a ≠ (n : Int) := fun e => hx.1 (e ▸ ha)
            simpa using this)
          rw [List.filter_cons_of_neg (by simp), this]; simp
        · have := ih hx.2
          rw [List.filter_cons_of_pos (by simpa using e)]; simp only [List.length_cons]; omega
    omega
theorem ROk.len {n : Nat} {out : List Int} (h : ROk n out) : out.length ≤ n := nodup_len n out h.1 h.2
theorem ROk.push {n : Nat} {out : List Int} {j : Nat} (h : ROk n out) (hj : j < n) (hc : out.contains (j : Int) = false) : ROk n (out ++ [(j : Int)]) := by
  have hm : (j : Int) ∉ out := fun hm => by rw [← List.contains_iff_mem, hc] at hm; cases hm
  refine ⟨List.nodup_append.2 ⟨h.1, by simp, fun a ha b hb e => hm (by rw [List.mem_singleton.1 hb] at e; exact e ▸ ha)⟩, fun x hx => ?_⟩
  rcases List.mem_append.1 hx with hx | hx
  · exact h.2 x hx
  · rw [List.mem_singleton.1 hx]; omega
/-! What it comes to. -/
section
variable {cons : List Con} {rem : List Int} {n : Nat} {v : Nat}
end
theorem ROk.one {n : Nat} {v : Int} (h : 0 ≤ v ∧ v < n) : ROk n [v] := ⟨by simp, fun x hx => by rw [List.mem_singleton.1 hx]; exact h⟩
theorem Conn.congr {n : Nat} {p : Nat → Nat → Prop} {w w' : Nat → Prop} {v b : Nat} (e : ∀ i, i < n → (w i ↔ w' i)) (h : Conn n p w v b) : Conn n p w' v b := by
  induction h with
  | refl => exact .refl
  | step _ hp hc hw ih => exact .step ih hp hc (fun h => hw ((e _ hc).2 h))
end Go.Proofs.YtojinjdobjodaaaGreat
namespace Go.Proofs.YtojinjdobjodaaaGreat
open Go
set_option linter.unusedSimpArgs false
set_option linter.unusedVariables false
/-! Rounds of the program's walk. -/
/-! Sets of variables. -/
def withF (w x : Int) : Int := ior w (ishl 1 x)
def withoutI (vars : List Int) : Int := vars.foldl withF 0
theorem with_nat {n : Nat} (hn : n ≤ 4) : ∀ {vars : List Int} {w : Nat}, (∀ x ∈ vars, (0 : Int) ≤ x ∧ x < n) → w < 2 ^ n →
    ∃ x : Nat, vars.foldl withF (w : Int) = (x : Int) ∧ x < 2 ^ n ∧ ∀ b, x.testBit b = true ↔ w.testBit b = true ∨ (b : Int) ∈ vars
  | [], w, _, hw => ⟨w, rfl, hw, fun b => by simp⟩
  | v :: vars, w, h, hw => by
    have h2n : 2 ^ n ≤ 2 ^ 4 := Nat.pow_le_pow_right (by decide) hn
    have hv := h v (.head _)
    obtain ⟨v, rfl⟩ := Int.eq_ofNat_of_zero_le hv.1
    have h1 : 2 ^ v < 2 ^ n := Nat.pow_lt_pow_right (by decide) (by omega)
    obtain ⟨x, h3, h4, h5⟩ := with_nat hn (vars := vars) (w := w ||| 2 ^ v) (fun x hx => h x (.tail _ hx)) (Nat.or_lt_two_pow hw h1)
    refine ⟨x, ?_, h4, fun b => ?_⟩
    · rw [List.foldl_cons, withF, ishl_one (by omega), ior_nat (by omega) (by omega)]; exact h3
    · rw [h5, Nat.testBit_or, Bool.or_eq_true, Nat.testBit_two_pow, decide_eq_true_eq, List.mem_cons]
      constructor
      · rintro ((h | h) | h)
        · exact .inl h
        · exact .inr (.inl (by omega))
        · exact .inr (.inr h)
      · rintro (h | h | h)
        · exact .inl (.inl h)
        · exact .inl (.inr (by omega))
        · exact .inr h
theorem withoutI_nat {n : Nat} (hn : n ≤ 4) {vars : List Int} (h : ∀ x ∈ vars, (0 : Int) ≤ x ∧ x < n) : ∃ x : Nat, withoutI vars = (x : Int) ∧ ∀ b, x.testBit b = true ↔ (b : Int) ∈ vars := by
  obtain ⟨x, h1, _, h3⟩ := with_nat hn (w := 0) h (Nat.two_pow_pos n)
  exact ⟨x, h1, fun b => by rw [h3]; simp⟩
/-! Valid models. -/
theorem allInB_iff {xs : List Int} {lo hi : Int} : allInB xs lo hi = true ↔ ∀ x ∈ xs, lo ≤ x ∧ x ≤ hi := by simp [allInB, List.all_eq_true, withinB]
theorem valid_n {m : Mod} (h : validModB m = true) : 1 ≤ m.doms.length ∧ m.doms.length ≤ 4 := by
  simp only [validModB, domainsOkB, Bool.and_eq_true, withinB_iff] at h; omega
theorem valid_in {m : Mod} (h : validModB m = true) : InN m.cons m.doms.length := fun c hc a ha => by
  simp only [validModB, Bool.and_eq_true, List.all_eq_true] at h
  have := h.2 c hc
  simp only [validConB, Bool.and_eq_true] at this
  have := allInB_iff.1 this.1.1.2 a ha
  omega
/-! Separators. -/
structure SepOk (m : Mod) (vars : List Int) (u v : Int) : Prop where
  n1 : 1 ≤ m.doms.length
  n : m.doms.length ≤ 4
  i : InN m.cons m.doms.length
  vs : ∀ x ∈ vars, (0 : Int) ≤ x ∧ x < m.doms.length
  u : 0 ≤ u ∧ u < m.doms.length
  v : 0 ≤ v ∧ v < m.doms.length
theorem SepOk.w {m : Mod} {vars : List Int} {u v : Int} (h : SepOk m vars u v) : 0 ≤ withoutI vars := by
  obtain ⟨x, h1, _⟩ := withoutI_nat h.n h.vs; rw [h1]; exact Int.natCast_nonneg _
theorem small_of {m : Mod} (h : szB 1048576 (modN m : Nat) = 1048576 - (modN m : Nat) ∧ (0 : Int) ≤ 1048576 - (modN m : Nat)) : SmallM m := by simp only [SmallM]; omega
end Go.Proofs.YtojinjdobjodaaaGreat
namespace Go.Proofs.YtojinjdobjodaaaGreat
open Go
set_option linter.unusedSimpArgs false
set_option linter.unusedVariables false
def natsI (xs : List Nat) : List Int := xs.map (fun (i : Nat) => (i : Int))
def membersTo (b : Int) (k : Nat) : List Int := natsI ((List.range k).filter (fun (i : Nat) => hasB b (i : Int)))
theorem filter_succ (p : Nat → Bool) (k : Nat) : (List.range (k + 1)).filter p = (List.range k).filter p ++ (if p k = true then [k] else []) := by
  rw [List.range_succ, List.filter_append]; congr 1
  by_cases h : p k = true
  · simp [h]
  · simp [h]
theorem members_stepT {b : Int} {k : Nat} {out : List Int} (h : out = membersTo b k) (c : hasB b (k : Int) = true) : out ++ [(k : Int)] = membersTo b (k + 1) := by
  subst h; simp only [membersTo, natsI, filter_succ, c, if_true, List.map_append, List.map_cons, List.map_nil]
theorem members_stepF {b : Int} {k : Nat} {out : List Int} (h : out = membersTo b k) (c : hasB b (k : Int) = false) : out = membersTo b (k + 1) := by
  subst h; simp only [membersTo, natsI, filter_succ, c, Bool.false_eq_true, if_false, List.append_nil]
theorem members_len {b : Int} {k : Nat} {out : List Int} (h : out = membersTo b k) : out.length ≤ k := by
  subst h; simp only [membersTo, natsI, List.length_map]; exact Nat.le_trans (List.length_filter_le _ _) (by simp)
theorem adjB_comm (cons : List Con) (u v : Int) : adjB cons u v = adjB cons v u := by
  simp only [adjB]; congr 1; funext c; simp only [joins]
  rw [Bool.and_right_comm]
  congr 2
  exact decide_eq_decide.2 ⟨fun h e => h e.symm, fun h e => h e.symm⟩
end Go.Proofs.YtojinjdobjodaaaGreat
namespace Go.Proofs.YtojinjdobjodaaaGreat
open Go
set_option linter.unusedSimpArgs false
set_option linter.unusedVariables false
end Go.Proofs.YtojinjdobjodaaaGreat
