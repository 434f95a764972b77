/- Plain functions on lists and models: what the program's functions come to. No program in sight. Conditions: none. -/
import Derived.Test.YtiilanckbocifaaFin
import Derived.Laws.BitsLemmas
import Derived.Test.YtiilanckbocifaaMut
namespace Go.Proofs.Ytiilanckbocifaa
open Go
set_option linter.unusedSimpArgs false
set_option linter.unusedVariables false

theorem litInts {H : Hp} {v : Value} {xs : List Int} (h : Sl H 1 (fun cs u => cs = [u]) v (xs.map (Value.int .i64))) : Ints H v xs := by
  obtain ⟨a, c, hv, h1, h2, h3⟩ := h
  simp only [List.length_map] at hv h1 h2 h3
  refine ⟨a, c, hv, h1, h2, fun i hi => ?_⟩
  obtain ⟨b, o, e, vs, hl, hr, hat⟩ := h3 i hi
  exact ⟨b, o, e, vs, hl, (by simpa using hr : vs = [_]), hat⟩
theorem litBools {H : Hp} {v : Value} {xs : List Bool} (h : Sl H 1 (fun cs u => cs = [u]) v (xs.map Value.bool)) : Bools H v xs := by
  obtain ⟨a, c, hv, h1, h2, h3⟩ := h
  simp only [List.length_map] at hv h1 h2 h3
  refine ⟨a, c, hv, h1, h2, fun i hi => ?_⟩
  obtain ⟨b, o, e, vs, hl, hr, hat⟩ := h3 i hi
  exact ⟨b, o, e, vs, hl, (by simpa using hr : vs = [_]), hat⟩

/-! Lists. -/
theorem getD_mem {A : Type} {xs : List A} {i : Nat} {d : A} (h : i < xs.length) : xs.getD i d ∈ xs := by
  rw [List.getD_eq_getElem?_getD, List.getElem?_eq_getElem h]; simp
theorem take_succ_getD {A : Type} {xs : List A} {k : Nat} (d : A) (h : k < xs.length) : xs.take (k + 1) = xs.take k ++ [xs.getD k d] := by
  rw [List.take_succ_eq_append_getElem h, List.getD_eq_getElem?_getD, List.getElem?_eq_getElem h]; simp
theorem all_take_step {A : Type} {xs : List A} {k : Nat} {p : A → Bool} {d : A} (h : k < xs.length) (hp : (xs.take k).all p = true) (hk : p (xs.getD k d) = true) : (xs.take (k + 1)).all p = true := by
  rw [take_succ_getD d h, List.all_append, hp]; simp at hk ⊢; exact hk
theorem all_false {A : Type} {xs : List A} {k : Nat} {p : A → Bool} {d : A} (h : k < xs.length) (hk : p (xs.getD k d) = false) : xs.all p = false := by
  rw [List.all_eq_false]; exact ⟨xs.getD k d, getD_mem h, by rw [hk]; simp⟩
theorem any_take_step {A : Type} {xs : List A} {k : Nat} {p : A → Bool} {d : A} (h : k < xs.length) (hp : (xs.take k).any p = false) (hk : p (xs.getD k d) = false) : (xs.take (k + 1)).any p = false := by
  rw [take_succ_getD d h, List.any_append, hp]; simp at hk ⊢; exact hk
theorem any_true {A : Type} {xs : List A} {k : Nat} {p : A → Bool} {d : A} (h : k < xs.length) (hk : p (xs.getD k d) = true) : xs.any p = true := by
  rw [List.any_eq_true]; exact ⟨_, getD_mem h, hk⟩

def withinB (n lo hi : Int) : Bool := decide (lo ≤ n) && decide (n ≤ hi)
theorem withinB_iff {n lo hi : Int} : withinB n lo hi = true ↔ lo ≤ n ∧ n ≤ hi := by simp [withinB]
/-- The first index whose element answers yes, or -1. -/
def indexBy {A : Type} (p : A → Bool) (xs : List A) : Int := match xs.findIdx? p with | some i => (i : Int) | none => -1
theorem indexBy_hit {A : Type} {p : A → Bool} {xs : List A} {k : Nat} {d : A} (hk : k < xs.length) (hp : (xs.take k).any p = false) (h : p (xs.getD k d) = true) : (k : Int) = indexBy p xs := by
  have : xs.findIdx? p = some k := by
    rw [List.findIdx?_eq_some_iff_getElem]
    refine ⟨hk, ?_, fun j hj => ?_⟩
    · rw [List.getD_eq_getElem?_getD, List.getElem?_eq_getElem hk] at h; simpa using h
    · rw [List.any_eq_false] at hp
      have := hp (xs[j]) (by rw [List.mem_take_iff_getElem]; exact ⟨j, by omega, rfl⟩)
      simpa using this
  simp [indexBy, this]
theorem indexBy_none {A : Type} {p : A → Bool} {xs : List A} {k : Nat} (hk : ¬ (k : Int) < (xs.length : Int)) (hp : (xs.take k).any p = false) : (-1 : Int) = indexBy p xs := by
  have : xs.findIdx? p = none := by
    rw [List.findIdx?_eq_none_iff]
    intro x hx
    rw [List.take_of_length_le (by omega), List.any_eq_false] at hp
    simpa using hp x hx
  simp [indexBy, this]
theorem indexBy_any {A : Type} (p : A → Bool) (xs : List A) : decide ((0 : Int) ≤ indexBy p xs) = xs.any p := by
  unfold indexBy
  cases h : xs.findIdx? p with
  | none =>
    have : xs.any p = false := by rw [List.any_eq_false]; intro x hx; have := (List.findIdx?_eq_none_iff.1 h) x hx; simp [this]
    simp [this]
  | some i =>
    have := (List.findIdx?_eq_some_iff_getElem.1 h)
    obtain ⟨h1, h2, _⟩ := this
    have : xs.any p = true := by rw [List.any_eq_true]; exact ⟨xs[i], List.getElem_mem h1, h2⟩
    simp [this]
def allInB (xs : List Int) (lo hi : Int) : Bool := xs.all fun n => withinB n lo hi
def distinctB (xs : List Int) : Bool := decide xs.Nodup
theorem nodup_take_succ {xs : List Int} {k : Nat} (h : k < xs.length) : (xs.take (k + 1)).Nodup ↔ (xs.take k).Nodup ∧ xs.getD k 0 ∉ xs.take k := by
  rw [take_succ_getD 0 h, List.nodup_append]
  constructor
  · rintro ⟨h1, _, h2⟩; exact ⟨h1, fun h3 => h2 _ h3 _ (.head _) rfl⟩
  · rintro ⟨h1, h2⟩; exact ⟨h1, by simp, fun a ha b hb e => h2 (by have hb' := List.mem_singleton.1 hb; subst hb'; exact e ▸ ha)⟩
theorem nodup_not {xs : List Int} {k : Nat} (h : k < xs.length) (hm : xs.getD k 0 ∈ xs.take k) : ¬ xs.Nodup := fun hn => by
  have := (nodup_take_succ h).1 (hn.sublist (List.take_sublist _ _))
  exact this.2 hm

/-! Models. -/
def validDomB (d : Int) : Bool := withinB d 0 63
def rowsInB (rows : List (List Int)) (n lo hi : Int) : Bool := withinB rows.length 1 8 && rows.all fun r => decide ((r.length : Int) = n) && allInB r lo hi
def fitsB (c : Con) : Bool :=
  if c.kind = 1 then (decide ((c.args.length : Int) = c.vars.length) && allInB c.args (-9) 9) && withinB c.bound (-999) 999 && decide ((c.rows.length : Int) = 0)
  else if c.kind = 2 then decide ((c.vars.length : Int) = 2) && (decide ((c.args.length : Int) = 1) && allInB c.args (-9) 9) && decide (c.bound = 0) && decide ((c.rows.length : Int) = 0)
  else if c.kind = 3 ∨ c.kind = 9 then decide ((c.args.length : Int) = 0) && decide (c.bound = 0) && decide ((c.rows.length : Int) = 0)
  else if c.kind = 4 then decide ((c.vars.length : Int) = 2) && withinB c.args.length 1 6 && allInB c.args 0 5 && decide (c.bound = 0) && decide ((c.rows.length : Int) = 0)
  else if c.kind = 5 then decide ((c.args.length : Int) = 0) && decide (c.bound = 0) && rowsInB c.rows c.vars.length 0 5
  else if c.kind = 6 then (decide ((c.args.length : Int) = 1) && allInB c.args 0 5) && withinB c.bound 0 4 && decide ((c.rows.length : Int) = 0)
  else if c.kind = 7 then (decide ((c.args.length : Int) = 2 * c.vars.length) && allInB c.args 0 9) && withinB c.bound 0 9 && decide ((c.rows.length : Int) = 0)
  else if c.kind = 8 then rowsInB c.rows 6 (-1) (c.rows.length - 1) && distinctB c.args && allInB c.args 0 (c.rows.length - 1) && decide (c.bound = 0)
  else false
def validConB (c : Con) (n : Int) : Bool := withinB n 1 4 && withinB c.vars.length 1 n && allInB c.vars 0 (n - 1) && distinctB c.vars && fitsB c
def domainsOkB (ds : List Int) : Bool := withinB ds.length 1 4 && allInB ds 0 63
def validModB (m : Mod) : Bool := domainsOkB m.doms && decide ((m.cons.length : Int) ≤ 6) && m.cons.all fun c => validConB c m.doms.length
end Go.Proofs.Ytiilanckbocifaa
namespace Go.Proofs.Ytiilanckbocifaa
open Go
set_option linter.unusedSimpArgs false
set_option linter.unusedVariables false
theorem not_mem_k2 {xs : List Int} {k j : Nat} (h : k ≤ j) (ha : (xs.take j).all (fun y => decide (xs.getD k 0 ≠ y)) = true) : xs.getD k 0 ∉ xs.take k := fun hm => by
  rw [List.all_eq_true] at ha
  have := ha _ ((List.take_subset_take_left xs h) hm)
  simp at this
theorem mem_take_of {xs : List Int} {k i : Nat} (h : k < i) (hi : i < xs.length) (e : xs.getD i 0 = xs.getD k 0) : xs.getD i 0 ∈ xs.take i := by
  rw [e, List.getD_eq_getElem?_getD, List.getElem?_eq_getElem (by omega)]
  simp only [Option.getD_some]
  rw [List.mem_take_iff_getElem]; exact ⟨k, by omega, rfl⟩
theorem rowBad {a n : Int} {b : Bool} (h : (decide (a ≠ n) || !b) = true) : (decide (a = n) && b) = false := by simp at h; cases b <;> simp_all
theorem rowGood {a n : Int} {b : Bool} (h : ¬ a ≠ n ∧ b = true) : (decide (a = n) && b) = true := by simp at h; simp [h]
def validConS (c : Con) (n : Int) : Bool := withinB c.vars.length 1 n && allInB c.vars 0 (n - 1) && distinctB c.vars && fitsB c
theorem conS_no {c : Con} {n : Int} (h : (!withinB c.vars.length 1 n || !allInB c.vars 0 (n - 1) || !distinctB c.vars) = true) : false = validConS c n := by
  simp only [validConS]; revert h; cases withinB (c.vars.length : Int) 1 n <;> cases allInB c.vars 0 (n - 1) <;> cases distinctB c.vars <;> simp
theorem conS_yes {c : Con} {n : Int} {b : Bool} (h : (!withinB c.vars.length 1 n || !allInB c.vars 0 (n - 1) || !distinctB c.vars) = false) (hb : b = fitsB c) : b = validConS c n := by
  simp only [validConS, hb]; revert h; cases withinB (c.vars.length : Int) 1 n <;> cases allInB c.vars 0 (n - 1) <;> cases distinctB c.vars <;> simp
theorem varAtBad {a b : Bool} (h : (!a || b) = true) : (a && !b) = false := by revert h; cases a <;> cases b <;> simp
theorem varAtGood {a b : Bool} (h : (!a || b) = false) : (a && !b) = true := by revert h; cases a <;> cases b <;> simp
theorem validModB_d {m : Mod} {k : Nat} (hk : k < m.doms.length) (h : validDomB (m.doms.getD k 0) = false) : false = validModB m := by
  have : allInB m.doms 0 63 = false := all_false (d := 0) hk h
  simp [validModB, domainsOkB, this]
theorem validModB_c {m : Mod} {k : Nat} (hk : k < m.cons.length) (h : validConS (m.cons.getD k nilCon) m.doms.length = false) : false = validModB m := by
  have : (m.cons.all fun c => validConB c m.doms.length) = false := all_false (d := nilCon) hk (by
    simp only [validConS] at h; simp only [validConB, Bool.and_assoc] at h ⊢; rw [h]; simp)
  simp only [validModB, this, Bool.and_false]
theorem validModB_all {m : Mod} (h : m.doms.all validDomB = true) (hc : (m.cons.all fun c => validConS c m.doms.length) = true) :
    (withinB m.doms.length 1 4 && decide ((m.cons.length : Int) ≤ 6)) = validModB m := by
  have h' : allInB m.doms 0 63 = true := h
  simp only [validModB, domainsOkB, h', Bool.and_true]
  cases hw : withinB (m.doms.length : Int) 1 4 with
  | false => simp
  | true =>
    have : (m.cons.all fun c => validConB c m.doms.length) = true := by
      rw [← hc]; congr 1; funext c; simp only [validConB, validConS, hw, Bool.true_and]
    simp [this]
theorem contains_hit {xs : List Int} {n : Int} {k : Nat} (hk : k < xs.length) (h : xs.getD k 0 = n) : true = xs.contains n := by
  symm; rw [List.contains_iff_mem]; exact h ▸ getD_mem hk
theorem contains_none {xs : List Int} {n : Int} {k : Nat} (hk : ¬ (k : Int) < (xs.length : Int)) (h : (xs.take k).any (fun y => decide (y = n)) = false) : false = xs.contains n := by
  rw [List.take_of_length_le (by omega), List.any_eq_false] at h
  symm; rw [← Bool.not_eq_true, List.contains_iff_mem]; intro hm
  have := h n hm; simp at this
/-- Ascending indexes below n: element i alone. -/
def varSetAt (n : Nat) (vars : List Int) (i : Nat) : Bool := withinB (vars.getD i 0) 0 ((n : Int) - 1) && !(decide ((0 : Int) < i) && decide (vars.getD i 0 ≤ vars.getD ((i : Int) - 1).toNat 0))
def varSetTo (n : Nat) (vars : List Int) (k : Nat) : Bool := (List.range k).all (varSetAt n vars)
def varSetS (n : Nat) (vars : List Int) : Bool := varSetTo n vars vars.length
theorem varSet_step {n : Nat} {vars : List Int} {k : Nat} (_h : k < vars.length) (h1 : varSetTo n vars k = true) (h2 : varSetAt n vars k = true) : varSetTo n vars (k + 1) = true := by
  simp only [varSetTo, List.range_succ, List.all_append] at *; simp [h1, h2]
theorem varSet_no {n : Nat} {vars : List Int} {k : Nat} (h : k < vars.length) (h2 : varSetAt n vars k = false) : false = varSetS n vars := by
  symm; simp only [varSetS, varSetTo, List.all_eq_false]; exact ⟨k, List.mem_range.2 h, by simp [h2]⟩
theorem varSet_yes {n : Nat} {vars : List Int} {k : Nat} (h : k = vars.length) (h1 : varSetTo n vars k = true) : true = varSetS n vars := by
  subst h; exact h1.symm
/-- Two different variables occur together in a constraint. -/
def joins (u v : Int) (c : Con) : Bool := decide (u ≠ v) && c.vars.contains u && c.vars.contains v
def adjB (cons : List Con) (u v : Int) : Bool := cons.any (joins u v)
end Go.Proofs.Ytiilanckbocifaa
namespace Go.Proofs.Ytiilanckbocifaa
open Go
set_option linter.unusedSimpArgs false
set_option linter.unusedVariables false
instance : DecidableEq Con := fun a b => decidable_of_iff (a.kind = b.kind ∧ a.vars = b.vars ∧ a.args = b.args ∧ a.bound = b.bound ∧ a.rows = b.rows) (by cases a; cases b; simp)
instance : DecidableEq Mod := fun a b => decidable_of_iff (a.doms = b.doms ∧ a.cons = b.cons) (by cases a; cases b; simp)
theorem OwnL.cast {A : Type} {E k : Nat} {H K : Hp} {R : Hp → List Value → A → Prop} {v : Value} {xs ys : List A} (e : xs = ys) (h : OwnL E k H K R v xs) : OwnL E k H K R v ys := e ▸ h
theorem OwnL.rowsK {E : Nat} {H K : Hp} {v : Value} {xs : List (List Int)} (h : OwnL E 1 H K RowV v xs) (c : Cmp H K) : Rows (orHp H K) v xs := (h.mono (K' := orHp H K) (orC c)).sl orL (fun _ _ h => h)
theorem OwnL.consK {E : Nat} {H K : Hp} {v : Value} {xs : List Con} (h : OwnL E 5 H K ConV v xs) (c : Cmp H K) : Cons (orHp H K) v xs := (h.mono (K' := orHp H K) (orC c)).sl orL (fun _ _ h => h)
/-! Sizes. -/
def szB (left n : Int) : Int := if left - n < 0 then -1 else left - n
theorem szB_neg {l n : Int} (h : l - n < 0) : (-1 : Int) = szB l n := by simp [szB, h]
theorem szB_pos {l n x : Int} (h : x = l - n) (h0 : 0 ≤ x) : x = szB l n := by simp only [szB]; split <;> omega
theorem szB_ok {l n : Int} (h : ¬ szB l n < 0) : szB l n = l - n ∧ 0 ≤ l - n := by simp only [szB] at *; split at h <;> simp_all <;> omega
theorem szB_lt {l n : Int} (h : szB l n < 0) : l - n < 0 := by simp only [szB] at *; split at h <;> omega
def rsum (xs : List (List Int)) : Nat := (xs.map List.length).sum
def conN (c : Con) : Nat := c.vars.length + c.args.length + (c.rows.length + rsum c.rows)
def csum (cs : List Con) : Nat := (cs.map conN).sum
def modN (m : Mod) : Nat := m.doms.length + (m.cons.length + csum m.cons)
theorem rsum_step {xs : List (List Int)} {k : Nat} (h : k < xs.length) : rsum (xs.take (k + 1)) = rsum (xs.take k) + (xs.getD k []).length := by
  rw [take_succ_getD [] h]; simp [rsum]
theorem csum_step {xs : List Con} {k : Nat} (h : k < xs.length) : csum (xs.take (k + 1)) = csum (xs.take k) + conN (xs.getD k nilCon) := by
  rw [take_succ_getD nilCon h]; simp [csum]
theorem sum_take_le (xs : List Nat) (k : Nat) : (xs.take k).sum ≤ xs.sum := by
  conv => rhs; rw [← List.take_append_drop k xs, List.sum_append]
  omega
theorem rsum_le (xs : List (List Int)) (k : Nat) : rsum (xs.take k) ≤ rsum xs := by simp only [rsum, List.map_take]; exact sum_take_le _ _
theorem csum_le (xs : List Con) (k : Nat) : csum (xs.take k) ≤ csum xs := by simp only [csum, List.map_take]; exact sum_take_le _ _
theorem le_sum_of {xs : List Nat} {n : Nat} (h : n ∈ xs) : n ≤ xs.sum := by
  induction xs with
  | nil => cases h
  | cons x xs ih =>
    simp only [List.sum_cons]
    cases h with
    | head => omega
    | tail _ h => have := ih h; omega
theorem rsum_mem {xs : List (List Int)} {r : List Int} (h : r ∈ xs) : r.length ≤ rsum xs := le_sum_of (List.mem_map.2 ⟨r, h, rfl⟩)
theorem csum_mem {xs : List Con} {c : Con} (h : c ∈ xs) : conN c ≤ csum xs := le_sum_of (List.mem_map.2 ⟨c, h, rfl⟩)
def SmallC (c : Con) : Prop := conN c ≤ 1048576
def SmallM (m : Mod) : Prop := modN m ≤ 1048576
theorem SmallC.vars {c : Con} (h : SmallC c) : c.vars.length ≤ 1048576 := by simp only [SmallC, conN] at h; omega
theorem SmallC.args {c : Con} (h : SmallC c) : c.args.length ≤ 1048576 := by simp only [SmallC, conN] at h; omega
theorem SmallC.rows {c : Con} (h : SmallC c) : c.rows.length ≤ 1048576 := by simp only [SmallC, conN] at h; omega
theorem SmallC.row {c : Con} (h : SmallC c) : ∀ r ∈ c.rows, r.length ≤ 1048576 := fun r hr => by
  have := rsum_mem hr; simp only [SmallC, conN] at h; omega
theorem SmallM.doms {m : Mod} (h : SmallM m) : m.doms.length ≤ 1048576 := by simp only [SmallM, modN] at h; omega
theorem SmallM.cons {m : Mod} (h : SmallM m) : m.cons.length ≤ 1048576 := by simp only [SmallM, modN] at h; omega
theorem SmallM.con {m : Mod} (h : SmallM m) : ∀ c ∈ m.cons, SmallC c := fun c hc => by
  have := csum_mem hc; simp only [SmallM, SmallC, modN] at *; omega
/-! Copies. -/
theorem fill_step {A : Type} {xs : List A} {z : A} {k : Nat} (d : A) (h : k < xs.length) :
    (xs.take k ++ List.replicate (xs.length - k) z).set k (xs.getD k d) = xs.take (k + 1) ++ List.replicate (xs.length - (k + 1)) z := by
  rw [List.set_append_right _ _ (by simp; omega), take_succ_getD d h, List.append_assoc]
  congr 1
  obtain ⟨j, hj⟩ : ∃ j, xs.length - k = j + 1 := ⟨xs.length - k - 1, by omega⟩
  have e1 : xs.length - (k + 1) = j := by omega
  have e2 : min k xs.length = k := by omega
  simp only [hj, e1, e2, List.length_take, Nat.sub_self, List.replicate_succ, List.set_cons_zero, List.singleton_append]
theorem fill_end {A : Type} {xs : List A} {z : A} {k : Nat} (h : ¬ (k : Int) < (xs.length : Int)) : xs.take k ++ List.replicate (xs.length - k) z = xs := by
  rw [List.take_of_length_le (by omega), show xs.length - k = 0 by omega]; simp
/-! Comparisons. -/
theorem eq_len {A : Type} [DecidableEq A] {a b : List A} (h : (a.length : Int) ≠ b.length) : false = decide (a = b) := by
  symm; rw [decide_eq_false_iff_not]; rintro rfl; exact h rfl
theorem eq_at {A : Type} [DecidableEq A] {a b : List A} {k : Nat} (d : A) (h : a.getD k d ≠ b.getD k d) : false = decide (a = b) := by
  symm; rw [decide_eq_false_iff_not]; rintro rfl; exact h rfl
theorem eq_step {A : Type} {a b : List A} {k : Nat} (d : A) (h : k < a.length) (hl : (a.length : Int) = b.length) (h1 : a.take k = b.take k) (h2 : a.getD k d = b.getD k d) : a.take (k + 1) = b.take (k + 1) := by
  rw [take_succ_getD d h, take_succ_getD d (by omega), h1, h2]
theorem eq_end {A : Type} [DecidableEq A] {a b : List A} {k : Nat} (hk : ¬ (k : Int) < (a.length : Int)) (hl : (a.length : Int) = b.length) (h1 : a.take k = b.take k) : true = decide (a = b) := by
  rw [List.take_of_length_le (by omega), List.take_of_length_le (by omega)] at h1; simp [h1]
theorem eqCon_iff {a b : Con} : decide (a = b) = (decide (a.kind = b.kind) && decide (a.vars = b.vars) && decide (a.args = b.args) && decide (a.bound = b.bound) && decide (a.rows = b.rows)) := by
  cases a; cases b; simp [and_assoc, ← Bool.decide_and]
theorem eqMod_iff {a b : Mod} : decide (a = b) = (decide (a.doms = b.doms) && decide (a.cons = b.cons)) := by
  cases a; cases b; simp [← Bool.decide_and]
theorem bne_F {a b : Bool} (h : (a != b) = false) : a = b := by simpa using h
theorem bne_T {a b : Bool} (h : (a != b) = true) : a ≠ b := by simpa using h
theorem bne_B {a b : Bool} (h : (a != b) = false) : (a == b) = true := by simpa using h
end Go.Proofs.Ytiilanckbocifaa
namespace Go.Proofs.Ytiilanckbocifaa
open Go
set_option linter.unusedSimpArgs false
set_option linter.unusedVariables false
theorem wraps_i64 (n : Int) (h₀ : 0 ≤ n) (h₁ : n < 2 ^ 63) : IntKind.i64.wrap n = n := by rw [IntKind.wrap_i64]; omega
theorem ior_nat {a b : Nat} (ha : a < 2 ^ 63) (hb : b < 2 ^ 63) : ior (a : Int) (b : Int) = ((a ||| b : Nat) : Int) := (bits_nat .i64 63 (by decide) wraps_i64 a b ha hb).2
theorem iand_nat {a b : Nat} (ha : a < 2 ^ 63) (hb : b < 2 ^ 63) : iand (a : Int) (b : Int) = ((a &&& b : Nat) : Int) := (bits_nat .i64 63 (by decide) wraps_i64 a b ha hb).1
theorem iandNot_nat {a b : Nat} (ha : a < 2 ^ 63) : ∃ c : Nat, iandNot (a : Int) (b : Int) = (c : Int) ∧ c ≤ a ∧ ∀ i, i < 64 → c.testBit i = (a.testBit i && !b.testBit i) := by
  have h1 : (BitVec.ofInt 64 (a : Int) &&& ~~~BitVec.ofInt 64 (b : Int)).toNat ≤ a := by
    rw [BitVec.toNat_and]
    refine Nat.le_trans Nat.and_le_left ?_
    simp only [BitVec.ofInt_natCast, BitVec.toNat_ofNat]; exact Nat.mod_le _ _
  refine ⟨(BitVec.ofInt 64 (a : Int) &&& ~~~BitVec.ofInt 64 (b : Int)).toNat, ?_, h1, fun i hi => ?_⟩
  · simp only [iandNot, bits, IntKind.bits]
    exact wraps_i64 _ (Int.natCast_nonneg _) (by have := Nat.lt_of_le_of_lt h1 ha; exact_mod_cast this)
  · simp only [BitVec.ofInt_natCast, BitVec.testBit_toNat, BitVec.getLsbD_and, BitVec.getLsbD_not, BitVec.getLsbD_ofNat, hi, decide_true, Bool.true_and]
theorem ishl_one {b : Nat} (hb : b < 63) : ishl 1 (b : Int) = ((2 ^ b : Nat) : Int) := by
  simp only [ishl, Int.toNat_natCast, Int.one_mul, Nat.min_eq_left (show b ≤ 64 by omega)]
  rw [wraps_i64 _ (by exact Int.pow_nonneg (by decide)) (by exact_mod_cast Nat.pow_lt_pow_right (by decide) hb)]
  simp
theorem ishr_nat {a i : Nat} (hi : i ≤ 64) : ishr (a : Int) (i : Int) = ((a >>> i : Nat) : Int) := by
  simp only [ishr, Int.toNat_natCast, Nat.min_eq_left hi, Nat.shiftRight_eq_div_pow]
  rw [Int.fdiv_eq_ediv_of_nonneg _ (Int.pow_nonneg (by decide))]
  simp
def hasB (m i : Int) : Bool := decide (iand (ishr m i) 1 = 1)
theorem hasB_nat {m i : Nat} (hm : m < 2 ^ 63) (hi : i ≤ 64) : hasB (m : Int) (i : Int) = m.testBit i := by
  have h1 : m >>> i < 2 ^ 63 := Nat.lt_of_le_of_lt (by rw [Nat.shiftRight_eq_div_pow]; exact Nat.div_le_self _ _) hm
  simp only [hasB, ishr_nat hi]
  rw [show ((1 : Int)) = ((1 : Nat) : Int) from rfl, iand_nat h1 (by decide), Nat.testBit, Nat.and_comm]
  simp only [Nat.one_and_eq_mod_two]
  rcases Nat.mod_two_eq_zero_or_one (m >>> i) with h | h <;> simp [h]
/-! The graph. -/
theorem fold_step {A B : Type} {f : B → A → B} {xs : List A} {k : Nat} (d : A) (h : k < xs.length) {g g0 : B} (e : g = (xs.take k).foldl f g0) : f g (xs.getD k d) = (xs.take (k + 1)).foldl f g0 := by
  rw [take_succ_getD d h, List.foldl_append, ← e]; rfl
theorem fold_end {A B : Type} {f : B → A → B} {xs : List A} {k : Nat} (h : ¬ (k : Int) < (xs.length : Int)) {g g0 : B} (e : g = (xs.take k).foldl f g0) : g = xs.foldl f g0 := by
  rw [List.take_of_length_le (by omega)] at e; exact e
def gB (a : Int) (g : List Int) (b : Int) : List Int := if a ≠ b then g.set a.toNat (ior (g.getD a.toNat 0) (ishl 1 b)) else g
def gA (vs : List Int) (g : List Int) (a : Int) : List Int := vs.foldl (gB a) g
def gC (g : List Int) (c : Con) : List Int := c.vars.foldl (gA c.vars) g
def graphI (m : Mod) : List Int := m.cons.foldl gC (List.replicate m.doms.length 0)
/-- The variables of all constraints are indexes below n. -/
def InN (cons : List Con) (n : Nat) : Prop := ∀ c ∈ cons, ∀ a ∈ c.vars, (0 : Int) ≤ a ∧ a < n
/-- A list of masks that hold exactly the pairs of p. -/
def MaskG (n : Nat) (g : List Int) (p : Nat → Nat → Prop) : Prop := g.length = n ∧ ∀ a, a < n → ∃ x : Nat, g.getD a 0 = (x : Int) ∧ ∀ b, x.testBit b = true ↔ b < n ∧ p a b
theorem MaskG.congr {n : Nat} {g : List Int} {p q : Nat → Nat → Prop} (h : MaskG n g p) (e : ∀ a b, p a b ↔ q a b) : MaskG n g q :=
  ⟨h.1, fun a ha => by obtain ⟨x, h1, h2⟩ := h.2 a ha; exact ⟨x, h1, fun b => by rw [h2, e]⟩⟩
theorem lt_of_bits {x n : Nat} (h : ∀ b, x.testBit b = true → b < n) : x < 2 ^ n := Nat.lt_pow_two_of_testBit _ (fun i hi => by
  cases hx : x.testBit i with
  | false => rfl
  | true => have := h i hx; omega)
theorem MaskG.gB {n : Nat} {g : List Int} {p : Nat → Nat → Prop} (hn : n ≤ 62) (h : MaskG n g p) {a b : Int} (ha : 0 ≤ a ∧ a < n) (hb : 0 ≤ b ∧ b < n) :
    MaskG n (gB a g b) (fun x y => p x y ∨ ((x : Int) = a ∧ (y : Int) = b ∧ a ≠ b)) := by
  unfold Go.Proofs.Ytiilanckbocifaa.gB
  by_cases e : a = b
  · simp only [e, ne_eq, not_true_eq_false, if_false]
    exact h.congr (fun x y => by simp)
  · simp only [ne_eq, e, not_false_eq_true, if_true]
    obtain ⟨a, rfl⟩ := Int.eq_ofNat_of_zero_le ha.1
    obtain ⟨b, rfl⟩ := Int.eq_ofNat_of_zero_le hb.1
    have ha' : a < n := by omega
    have hb' : b < n := by omega
    obtain ⟨x, h1, h2⟩ := h.2 a ha'
    have hx : x < 2 ^ 63 := Nat.lt_of_lt_of_le (lt_of_bits (n := n) (fun b hb => ((h2 b).1 hb).1)) (Nat.pow_le_pow_right (by decide) (by omega))
    have hp : 2 ^ b < 2 ^ 63 := Nat.pow_lt_pow_right (by decide) (by omega)
    simp only [Int.toNat_natCast]
    rw [h1, ishl_one (by omega), ior_nat hx hp]
    refine ⟨by simpa using h.1, fun a' ha2 => ?_⟩
    by_cases ea : a' = a
    · subst ea
      refine ⟨x ||| 2 ^ b, by simp [List.getD_eq_getElem?_getD, List.getElem?_set, h.1, ha'], fun y => ?_⟩
      rw [Nat.testBit_or, Bool.or_eq_true, h2, Nat.testBit_two_pow]
      simp only [decide_eq_true_eq]
      constructor
      · rintro (h | h)
        · exact ⟨h.1, .inl h.2⟩
        · subst h; exact ⟨hb', .inr (by simp [e])⟩
      · rintro ⟨h, h3 | h3⟩
        · exact .inl ⟨h, h3⟩
        · right; omega
    · obtain ⟨x', h3, h4⟩ := h.2 a' ha2
      refine ⟨x', by rw [← h3]; simp [List.getD_eq_getElem?_getD, List.getElem?_set, Ne.symm ea], fun y => ?_⟩
      rw [h4]
      constructor
      · rintro ⟨h5, h6⟩; exact ⟨h5, .inl h6⟩
      · rintro ⟨h5, h6 | h6⟩
        · exact ⟨h5, h6⟩
        · omega
theorem MaskG.gA {n : Nat} (hn : n ≤ 62) {a : Int} (ha : 0 ≤ a ∧ a < n) : ∀ {vs : List Int} {g : List Int} {p : Nat → Nat → Prop}, MaskG n g p → (∀ b ∈ vs, 0 ≤ b ∧ b < n) →
    MaskG n (gA vs g a) (fun x y => p x y ∨ ((x : Int) = a ∧ (y : Int) ∈ vs ∧ x ≠ y))
  | [], g, p, h, _ => h.congr (fun x y => by simp)
  | v :: vs, g, p, h, hb => by
    have h1 := (h.gB hn ha (hb v (.head _)))
    have h2 := MaskG.gA hn ha (vs := vs) h1 (fun b hm => hb b (.tail _ hm))
    refine h2.congr (fun x y => ?_)
    simp only [List.mem_cons]
    constructor
    · rintro ((h | ⟨h3, h4, h5⟩) | ⟨h3, h4, h5⟩)
      · exact .inl h
      · exact .inr ⟨h3, .inl h4, by omega⟩
      · exact .inr ⟨h3, .inr h4, h5⟩
    · rintro (h | ⟨h3, h4 | h4, h5⟩)
      · exact .inl (.inl h)
      · exact .inl (.inr ⟨h3, h4, by omega⟩)
      · exact .inr ⟨h3, h4, h5⟩
theorem MaskG.gAs {n : Nat} (hn : n ≤ 62) {vs : List Int} (hv : ∀ b ∈ vs, (0 : Int) ≤ b ∧ b < n) : ∀ {us : List Int} {g : List Int} {p : Nat → Nat → Prop}, MaskG n g p → (∀ b ∈ us, (0 : Int) ≤ b ∧ b < n) →
    MaskG n (us.foldl (Go.Proofs.Ytiilanckbocifaa.gA vs) g) (fun x y => p x y ∨ ((x : Int) ∈ us ∧ (y : Int) ∈ vs ∧ x ≠ y))
  | [], g, p, h, _ => h.congr (fun x y => by simp)
  | v :: us, g, p, h, hb => by
    have h1 := MaskG.gA hn (hb v (.head _)) h hv
    have h2 := MaskG.gAs hn hv (us := us) h1 (fun b hm => hb b (.tail _ hm))
    refine h2.congr (fun x y => ?_)
    simp only [List.mem_cons]
    constructor
    · rintro ((h | ⟨h3, h4, h5⟩) | ⟨h3, h4, h5⟩)
      · exact .inl h
      · exact .inr ⟨.inl h3, h4, h5⟩
      · exact .inr ⟨.inr h3, h4, h5⟩
    · rintro (h | ⟨h3 | h3, h4, h5⟩)
      · exact .inl (.inl h)
      · exact .inl (.inr ⟨h3, h4, h5⟩)
      · exact .inr ⟨h3, h4, h5⟩
theorem MaskG.gCs {n : Nat} (hn : n ≤ 62) : ∀ {cs : List Con} {g : List Int} {p : Nat → Nat → Prop}, MaskG n g p → InN cs n →
    MaskG n (cs.foldl gC g) (fun x y => p x y ∨ ∃ c ∈ cs, (x : Int) ∈ c.vars ∧ (y : Int) ∈ c.vars ∧ x ≠ y)
  | [], g, p, h, _ => h.congr (fun x y => by simp)
  | c :: cs, g, p, h, hb => by
    have h1 := MaskG.gAs hn (hb c (.head _)) h (hb c (.head _))
    have h2 := MaskG.gCs hn (cs := cs) h1 (fun c hm => hb c (.tail _ hm))
    refine h2.congr (fun x y => ?_)
    constructor
    · rintro ((h | h) | ⟨c', h3, h4⟩)
      · exact .inl h
      · exact .inr ⟨c, .head _, h⟩
      · exact .inr ⟨c', .tail _ h3, h4⟩
    · rintro (h | ⟨c', h3, h4⟩)
      · exact .inl (.inl h)
      · cases h3 with
        | head => exact .inl (.inr h4)
        | tail _ h3 => exact .inr ⟨c', h3, h4⟩
theorem adjB_iff {cons : List Con} {x y : Nat} : adjB cons x y = true ↔ ∃ c ∈ cons, (x : Int) ∈ c.vars ∧ (y : Int) ∈ c.vars ∧ x ≠ y := by
  simp only [adjB, List.any_eq_true, joins, Bool.and_eq_true, decide_eq_true_eq, List.contains_iff_mem]
  constructor
  · rintro ⟨c, h, ⟨h1, h2⟩, h3⟩; exact ⟨c, h, h2, h3, by omega⟩
  · rintro ⟨c, h, h2, h3, h1⟩; exact ⟨c, h, ⟨by omega, h2⟩, h3⟩
theorem graphI_mask {m : Mod} (hn : m.doms.length ≤ 62) (hv : InN m.cons m.doms.length) : MaskG m.doms.length (graphI m) (fun x y => adjB m.cons x y = true) := by
  have h0 : MaskG m.doms.length (List.replicate m.doms.length 0) (fun _ _ => False) := ⟨by simp, fun a ha => ⟨0, by simp [List.getD_eq_getElem?_getD, ha], fun b => by simp⟩⟩
  exact (MaskG.gCs hn h0 hv).congr (fun x y => by rw [adjB_iff]; simp)
theorem gB_len (a : Int) (g : List Int) (b : Int) : (gB a g b).length = g.length := by unfold gB; split <;> simp
theorem gA_len (vs : List Int) (g : List Int) (a : Int) : (gA vs g a).length = g.length := by
  unfold gA; induction vs generalizing g with
  | nil => rfl
  | cons v vs ih => rw [List.foldl_cons, ih, gB_len]
theorem gAs_len (vs : List Int) : ∀ (us : List Int) (g : List Int), (us.foldl (gA vs) g).length = g.length
  | [], _ => rfl
  | v :: us, g => by rw [List.foldl_cons, gAs_len vs us, gA_len]
theorem gC_len (g : List Int) (c : Con) : (gC g c).length = g.length := gAs_len _ _ _
end Go.Proofs.Ytiilanckbocifaa
namespace Go.Proofs.Ytiilanckbocifaa
open Go
set_option linter.unusedSimpArgs false
set_option linter.unusedVariables false
/-! The program's way. -/
def lkTo (g : List Int) (w o : Int) (k : Nat) : Int := (List.range k).foldl (fun x (i : Nat) => if hasB o (i : Int) = true then ior x (iandNot (g.getD i 0) w) else x) o
theorem lkTo_zero (g : List Int) (w o : Int) : lkTo g w o 0 = o := rfl
theorem lkTo_succ (g : List Int) (w o : Int) (k : Nat) : lkTo g w o (k + 1) = if hasB o (k : Int) = true then ior (lkTo g w o k) (iandNot (g.getD k 0) w) else lkTo g w o k := by
  simp only [lkTo, List.range_succ, List.foldl_append, List.foldl_cons, List.foldl_nil]
def lkIter (g : List Int) (w : Int) : Nat → Int → Int
  | 0, o => o
  | f + 1, o => if lkTo g w o g.length = o then o else lkIter g w f (lkTo g w o g.length)
def linkedI (m : Mod) (v w : Int) : Int := lkIter (graphI m) w 16 (ishl 1 v)
theorem lkIter_fix {g : List Int} {w o : Int} (h : lkTo g w o g.length = o) : ∀ f, lkIter g w f o = o
  | 0 => rfl
  | f + 1 => by simp [lkIter, h]
def LkOk (o : Int) (f : Nat) : Prop := 0 ≤ o ∧ o < 16 ∧ 16 ≤ o + f
/-- One round in natural numbers. -/
theorem lkTo_nat {n : Nat} {g : List Int} {p : Nat → Nat → Prop} (hn : n ≤ 4) (hg : MaskG n g p) {w o : Nat} (ho : o < 2 ^ n) : ∀ k, k ≤ n →
    ∃ x : Nat, lkTo g w o k = (x : Int) ∧ ∀ b, x.testBit b = true ↔ o.testBit b = true ∨ (b < n ∧ w.testBit b = false ∧ ∃ i, i < k ∧ o.testBit i = true ∧ p i b)
  | 0, _ => ⟨o, rfl, fun b => by simp⟩
  | k + 1, hk => by
    have h2n : 2 ^ n ≤ 2 ^ 4 := Nat.pow_le_pow_right (by decide) hn
    obtain ⟨x, h1, h2⟩ := lkTo_nat hn hg (w := w) ho k (by omega)
    obtain ⟨y, h3, h4⟩ := hg.2 k (by omega)
    have hy : y < 2 ^ n := lt_of_bits (fun b hb => ((h4 b).1 hb).1)
    have hx : x < 2 ^ n := lt_of_bits (fun b hb => by
      rcases (h2 b).1 hb with h | h
      · exact Nat.lt_of_not_le (fun hle => by have := Nat.testBit_lt_two_pow (Nat.lt_of_lt_of_le ho (Nat.pow_le_pow_right (by decide) hle)); rw [h] at this; cases this)
      · exact h.1)
    rw [lkTo_succ, h1, h3, hasB_nat (by omega) (by omega)]
    by_cases hb : o.testBit k = true
    · rw [if_pos hb]
      obtain ⟨c, h5, h6, h7⟩ := iandNot_nat (a := y) (b := w) (by omega)
      rw [h5, ior_nat (by omega) (by omega)]
      refine ⟨x ||| c, rfl, fun b => ?_⟩
      rw [Nat.testBit_or, Bool.or_eq_true, h2]
      have hc : c.testBit b = true ↔ b < n ∧ p k b ∧ w.testBit b = false := by
        by_cases h64 : b < 64
        · rw [h7 b h64, Bool.and_eq_true, h4]; simp [and_assoc]
        · have : c.testBit b = false := Nat.testBit_lt_two_pow (Nat.lt_of_lt_of_le (by omega : c < 2 ^ 4) (Nat.pow_le_pow_right (by decide) (by omega)))
          rw [this]; constructor
          · intro h; cases h
          · rintro ⟨h, _⟩; omega
      rw [hc]
      constructor
      · rintro ((h | ⟨h8, h9, i, h10, h11⟩) | ⟨h8, h9, h10⟩)
        · exact .inl h
        · exact .inr ⟨h8, h9, i, by omega, h11⟩
        · exact .inr ⟨h8, h10, k, by omega, hb, h9⟩
      · rintro (h | ⟨h8, h9, i, h10, h11, h12⟩)
        · exact .inl (.inl h)
        · by_cases e : i = k
          · subst e; exact .inr ⟨h8, h12, h9⟩
          · exact .inl (.inr ⟨h8, h9, i, by omega, h11, h12⟩)
    · rw [if_neg hb]
      refine ⟨x, rfl, fun b => ?_⟩
      rw [h2]
      constructor
      · rintro (h | ⟨h8, h9, i, h10, h11⟩)
        · exact .inl h
        · exact .inr ⟨h8, h9, i, by omega, h11⟩
      · rintro (h | ⟨h8, h9, i, h10, h11, h12⟩)
        · exact .inl h
        · refine .inr ⟨h8, h9, i, ?_, h11, h12⟩
          have : i ≠ k := fun e => hb (e ▸ h11)
          omega
theorem le_of_bits {x y : Nat} (h : ∀ b, x.testBit b = true → y.testBit b = true) : x ≤ y := by
  have : x ||| y = y := Nat.eq_of_testBit_eq (fun b => by
    rw [Nat.testBit_or]; cases hx : x.testBit b with
    | false => simp
    | true => simp [h b hx])
  rw [← this]; exact Nat.left_le_or
theorem lkTo_bound {n : Nat} {g : List Int} {p : Nat → Nat → Prop} (hn : n ≤ 4) (hg : MaskG n g p) {w o : Int} (hw : 0 ≤ w) (h0 : 0 ≤ o) (ho : o < 2 ^ n) :
    o ≤ lkTo g w o n ∧ lkTo g w o n < 2 ^ n := by
  obtain ⟨w, rfl⟩ := Int.eq_ofNat_of_zero_le hw
  obtain ⟨o, rfl⟩ := Int.eq_ofNat_of_zero_le h0
  have ho' : o < 2 ^ n := by exact_mod_cast ho
  obtain ⟨x, h1, h2⟩ := lkTo_nat hn hg (w := w) ho' n (Nat.le_refl _)
  rw [h1]
  constructor
  · exact_mod_cast le_of_bits (fun b hb => (h2 b).2 (.inl hb))
  · have : x < 2 ^ n := lt_of_bits (fun b hb => by
      rcases (h2 b).1 hb with h | h
      · exact Nat.lt_of_not_le (fun hle => by have := Nat.testBit_lt_two_pow (Nat.lt_of_lt_of_le ho' (Nat.pow_le_pow_right (by decide) hle)); rw [h] at this; cases this)
      · exact h.1)
    exact_mod_cast this
/-- A path from v through indexes outside w. -/
inductive Conn (n : Nat) (p : Nat → Nat → Prop) (w : Nat → Prop) (v : Nat) : Nat → Prop where
  | refl : Conn n p w v v
  | step {a b : Nat} : Conn n p w v a → p a b → b < n → ¬ w b → Conn n p w v b
/-- What the program's rounds end with. -/
theorem lkIter_conn {n : Nat} {g : List Int} {p : Nat → Nat → Prop} (hn : n ≤ 4) (hg : MaskG n g p) {w v : Nat} (hv : v < n) : ∀ (f : Nat) (o : Nat), o < 2 ^ n → 16 ≤ o + f → o.testBit v = true →
    (∀ b, o.testBit b = true → Conn n p (fun i => w.testBit i = true) v b) →
    ∃ x : Nat, lkIter g (w : Int) f (o : Int) = (x : Int) ∧ x < 2 ^ n ∧ ∀ b, x.testBit b = true ↔ Conn n p (fun i => w.testBit i = true) v b
  | 0, o, ho, hf, _, _ => by
    have h2n : 2 ^ n ≤ 2 ^ 4 := Nat.pow_le_pow_right (by decide) hn
    omega
  | f + 1, o, ho, hf, h1, h2 => by
    obtain ⟨x, hx, hb⟩ := lkTo_nat hn hg (w := w) ho n (Nat.le_refl _)
    have hxn : x < 2 ^ n := by
      have := (lkTo_bound hn hg (w := w) (o := o) (Int.natCast_nonneg _) (Int.natCast_nonneg _) (by exact_mod_cast ho)).2
      rw [hx] at this; exact_mod_cast this
    have hle : o ≤ x := le_of_bits (fun b h => (hb b).2 (.inl h))
    simp only [lkIter, hg.1, hx]
    by_cases e : x = o
    · subst e
      simp only [if_true]
      refine ⟨x, rfl, ho, fun b => ⟨h2 b, fun h => ?_⟩⟩
      induction h with
      | refl => exact h1
      | @step a c hac hp hc hw ih =>
        refine (hb c).2 (.inr ⟨hc, by simpa using hw, a, ?_, ih, hp⟩)
        exact Nat.lt_of_not_le (fun hle => by have := Nat.testBit_lt_two_pow (Nat.lt_of_lt_of_le ho (Nat.pow_le_pow_right (by decide) hle)); rw [ih] at this; cases this)
    · have e' : ¬ ((x : Int) = (o : Int)) := by omega
      rw [if_neg e']
      refine lkIter_conn hn hg hv f x hxn (by omega) ((hb v).2 (.inl h1)) (fun b h => ?_)
      rcases (hb b).1 h with h | ⟨h3, h4, i, h5, h6, h7⟩
      · exact h2 b h
      · exact .step (h2 i h6) h7 h3 (by simpa using h4)
theorem linkedI_conn {m : Mod} (hn : m.doms.length ≤ 4) (hi : InN m.cons m.doms.length) {w v : Nat} (hv : v < m.doms.length) :
    ∃ x : Nat, linkedI m v w = (x : Int) ∧ x < 2 ^ m.doms.length ∧ ∀ b, x.testBit b = true ↔ Conn m.doms.length (fun x y => adjB m.cons x y = true) (fun i => w.testBit i = true) v b := by
  have hg := graphI_mask (by omega) hi
  unfold linkedI
  rw [ishl_one (by omega)]
  refine lkIter_conn hn hg hv 16 (2 ^ v) (Nat.pow_lt_pow_right (by decide) hv) (Nat.le_add_left _ _) (by simp) (fun b hb => ?_)
  have : v = b := by simpa [Nat.testBit_two_pow] using hb
  subst this; exact .refl
end Go.Proofs.Ytiilanckbocifaa
namespace Go.Proofs.Ytiilanckbocifaa
open Go
set_option linter.unusedSimpArgs false
set_option linter.unusedVariables false
def reachIn (cons : List Con) (rem : List Int) (i : Nat) (out : List Int) (u : Nat) : List Int :=
  if ((adjB cons (out.getD i 0) (u : Int) && !(rem.contains (u : Int))) && !(out.contains (u : Int))) = true then out ++ [(u : Int)] else out
def reachRow (cons : List Con) (rem : List Int) (i : Nat) (out : List Int) (k : Nat) : List Int := (List.range k).foldl (reachIn cons rem i) out
def reachGo (cons : List Con) (rem : List Int) (n : Nat) : Nat → Nat → List Int → List Int
  | 0, _, out => out
  | f + 1, i, out => if i < out.length then reachGo cons rem n f (i + 1) (reachRow cons rem i out n) else out
def reachS (m : Mod) (v : Int) (rem : List Int) : List Int := reachGo m.cons rem m.doms.length m.doms.length 0 [v]
def ROk (n : Nat) (out : List Int) : Prop := out.Nodup ∧ ∀ x ∈ out, (0 : Int) ≤ x ∧ x < n
theorem nodup_len : ∀ (n : Nat) (out : List Int), out.Nodup → (∀ x ∈ out, (0 : Int) ≤ x ∧ x < n) → out.length ≤ n
  | 0, [], _, _ => Nat.le_refl _
  | 0, x :: xs, _, h => by have := h x (.head _); omega
  | n + 1, out, hd, h => by
    have h1 : (out.filter (fun x => decide (x ≠ (n : Int)))).length ≤ n := nodup_len n _ (hd.filter _) (fun x hx => by
      obtain ⟨h2, h3⟩ := List.mem_filter.1 hx
      have := h x h2
      have h4 : x ≠ (n : Int) := by simpa using h3
      omega)
    have h2 : out.length ≤ (out.filter (fun x => decide (x ≠ (n : Int)))).length + 1 := by
      clear h1 h
      induction out with
      | nil => simp
      | cons x xs ih =>
        have hx := List.nodup_cons.1 hd
        by_cases e : x = (n : Int)
        · subst e
          have : (xs.filter (fun x => decide (x ≠ (n : Int)))) = xs := List.filter_eq_self.2 (fun a ha => by
            have : a ≠ (n : Int) := fun e => hx.1 (e ▸ ha)
            simpa using this)
          rw [List.filter_cons_of_neg (by simp), this]; simp
        · have := ih hx.2
          rw [List.filter_cons_of_pos (by simpa using e)]; simp only [List.length_cons]; omega
    omega
theorem ROk.len {n : Nat} {out : List Int} (h : ROk n out) : out.length ≤ n := nodup_len n out h.1 h.2
theorem reachRow_zero (cons : List Con) (rem : List Int) (i : Nat) (out : List Int) : reachRow cons rem i out 0 = out := rfl
theorem reachRow_succ (cons : List Con) (rem : List Int) (i : Nat) (out : List Int) (k : Nat) : reachRow cons rem i out (k + 1) = reachIn cons rem i (reachRow cons rem i out k) k := by
  simp only [reachRow, List.range_succ, List.foldl_append, List.foldl_cons, List.foldl_nil]
theorem ROk.push {n : Nat} {out : List Int} {j : Nat} (h : ROk n out) (hj : j < n) (hc : out.contains (j : Int) = false) : ROk n (out ++ [(j : Int)]) := by
  have hm : (j : Int) ∉ out := fun hm => by rw [← List.contains_iff_mem, hc] at hm; cases hm
  refine ⟨List.nodup_append.2 ⟨h.1, by simp, fun a ha b hb e => hm (by rw [List.mem_singleton.1 hb] at e; exact e ▸ ha)⟩, fun x hx => ?_⟩
  rcases List.mem_append.1 hx with hx | hx
  · exact h.2 x hx
  · rw [List.mem_singleton.1 hx]; omega
theorem reach_stepT {cons : List Con} {rem : List Int} {n k j : Nat} {out o2 : List Int} (h : o2 = reachRow cons rem k out j ∧ ROk n o2 ∧ k < o2.length) (hj : j < n)
    (c : ((adjB cons (o2.getD k 0) (j : Int) && !(rem.contains (j : Int))) && !(o2.contains (j : Int))) = true) :
    o2 ++ [(j : Int)] = reachRow cons rem k out (j + 1) ∧ ROk n (o2 ++ [(j : Int)]) ∧ k < (o2 ++ [(j : Int)]).length := by
  refine ⟨?_, h.2.1.push hj ?_, by simp only [List.length_append]; omega⟩
  · rw [reachRow_succ, ← h.1, reachIn, if_pos c]
  · rw [Bool.and_eq_true, Bool.not_eq_true'] at c; exact c.2
theorem reach_stepF {cons : List Con} {rem : List Int} {n k j : Nat} {out o2 : List Int} (h : o2 = reachRow cons rem k out j ∧ ROk n o2 ∧ k < o2.length)
    (c : ((adjB cons (o2.getD k 0) (j : Int) && !(rem.contains (j : Int))) && !(o2.contains (j : Int))) = false) :
    o2 = reachRow cons rem k out (j + 1) ∧ ROk n o2 ∧ k < o2.length := by
  refine ⟨?_, h.2⟩
  rw [reachRow_succ, ← h.1, reachIn, if_neg (by rw [c]; simp)]
theorem reach_next {cons : List Con} {rem : List Int} {n k j : Nat} {out o2 R : List Int} (h : reachGo cons rem n (n - k) k out = R ∧ ROk n out ∧ k ≤ out.length)
    (h2 : o2 = reachRow cons rem k out j ∧ ROk n o2 ∧ k < o2.length) (hj : j = n) (hk : k < out.length) : reachGo cons rem n (n - (k + 1)) (k + 1) o2 = R ∧ ROk n o2 ∧ k + 1 ≤ o2.length := by
  have := h.2.1.len
  subst hj
  obtain ⟨f, hf⟩ : ∃ f, j - k = f + 1 := ⟨j - k - 1, by omega⟩
  refine ⟨?_, h2.2.1, h2.2.2⟩
  rw [← h.1, hf, reachGo, if_pos hk, ← h2.1, show j - (k + 1) = f by omega]
theorem reach_end {cons : List Con} {rem : List Int} {n k : Nat} {out R : List Int} (h : reachGo cons rem n (n - k) k out = R ∧ ROk n out ∧ k ≤ out.length) (hk : ¬ (k : Int) < (out.length : Int)) : out = R := by
  rw [← h.1]
  cases n - k with
  | zero => rfl
  | succ f => rw [reachGo, if_neg (by omega)]
/-! What it comes to. -/
section
variable {cons : List Con} {rem : List Int} {n : Nat} {v : Nat}
abbrev Adj (cons : List Con) : Nat → Nat → Prop := fun x y => adjB cons x y = true
abbrev Gone (rem : List Int) : Nat → Prop := fun i => (i : Int) ∈ rem
/-- One row: a longer list, of connected indexes, that holds the neighbours of element i below k. -/
theorem reachRow_law {i : Nat} {out : List Int} (ho : ROk n out) (hi : i < out.length) (hc : ∀ b : Nat, (b : Int) ∈ out → Conn n (Adj cons) (Gone rem) v b) : ∀ k, k ≤ n →
    ROk n (reachRow cons rem i out k) ∧ (∃ e, reachRow cons rem i out k = out ++ e) ∧ (∀ b : Nat, (b : Int) ∈ reachRow cons rem i out k → Conn n (Adj cons) (Gone rem) v b) ∧
      ∀ b : Nat, b < k → adjB cons (out.getD i 0) b = true → (b : Int) ∉ rem → (b : Int) ∈ reachRow cons rem i out k
  | 0, _ => ⟨ho, ⟨[], by simp [reachRow_zero]⟩, hc, fun b h => absurd h (Nat.not_lt_zero b)⟩
  | k + 1, hk => by
    obtain ⟨h1, ⟨e, h2⟩, h3, h4⟩ := reachRow_law ho hi hc k (by omega)
    rw [reachRow_succ]
    have hget : (reachRow cons rem i out k).getD i 0 = out.getD i 0 := by rw [h2]; simp [List.getD_eq_getElem?_getD, List.getElem?_append_left hi]
    unfold reachIn
    by_cases c : ((adjB cons ((reachRow cons rem i out k).getD i 0) (k : Int) && !(rem.contains (k : Int))) && !((reachRow cons rem i out k).contains (k : Int))) = true
    · rw [if_pos c]
      simp only [Bool.and_eq_true, Bool.not_eq_true'] at c
      obtain ⟨⟨c1, c2⟩, c3⟩ := c
      refine ⟨h1.push (by omega) c3, ⟨e ++ [(k : Int)], by rw [h2, List.append_assoc]⟩, fun b hb => ?_, fun b hb ha hr => ?_⟩
      · rcases List.mem_append.1 hb with hb | hb
        · exact h3 b hb
        · have e : b = k := by have := List.mem_singleton.1 hb; omega
          subst e
          have hm := ho.2 _ (getD_mem (d := (0 : Int)) hi)
          obtain ⟨a, ha⟩ := Int.eq_ofNat_of_zero_le hm.1
          have hca := hc a (ha ▸ getD_mem hi)
          refine .step hca ?_ (by omega) (fun h => ?_)
          · rw [hget, ha] at c1; exact c1
          · have h' : (b : Int) ∈ rem := h
            rw [← List.contains_iff_mem, c2] at h'; cases h'
      · by_cases e : b = k
        · subst e; simp
        · exact List.mem_append_left _ (h4 b (by omega) ha hr)
    · rw [if_neg c]
      refine ⟨h1, ⟨e, h2⟩, h3, fun b hb ha hr => ?_⟩
      by_cases e : b = k
      · subst e
        rw [hget] at c
        have hr' : rem.contains (b : Int) = false := by rw [← Bool.not_eq_true, List.contains_iff_mem]; exact hr
        rw [ha, hr'] at c
        rw [← List.contains_iff_mem]
        simpa using c
      · exact h4 b (by omega) ha hr
theorem reachGo_law (hv : v < n) : ∀ (f i : Nat) (out : List Int), ROk n out → i ≤ out.length → n ≤ i + f → (v : Int) ∈ out → (∀ b : Nat, (b : Int) ∈ out → Conn n (Adj cons) (Gone rem) v b) →
    (∀ t, t < i → ∀ b : Nat, b < n → adjB cons (out.getD t 0) b = true → (b : Int) ∉ rem → (b : Int) ∈ out) →
    ∀ b : Nat, (b : Int) ∈ reachGo cons rem n f i out ↔ Conn n (Adj cons) (Gone rem) v b := by
  have fin : ∀ (i : Nat) (out : List Int), ROk n out → out.length ≤ i → (v : Int) ∈ out → (∀ b : Nat, (b : Int) ∈ out → Conn n (Adj cons) (Gone rem) v b) →
    (∀ t, t < i → ∀ b : Nat, b < n → adjB cons (out.getD t 0) b = true → (b : Int) ∉ rem → (b : Int) ∈ out) → ∀ b : Nat, (b : Int) ∈ out ↔ Conn n (Adj cons) (Gone rem) v b := by
    intro i out ho hi hvo hc ht b
    refine ⟨hc b, fun h => ?_⟩
    induction h with
    | refl => exact hvo
    | @step a c hac hp hc2 hw ih =>
      obtain ⟨t, h1, h2⟩ := List.mem_iff_getElem.1 ih
      exact ht t (by omega) c hc2 (by rw [List.getD_eq_getElem?_getD, List.getElem?_eq_getElem h1]; simpa [h2] using hp) hw
  intro f
  induction f with
  | zero =>
    intro i out ho hi hf hvo hc ht
    have := ho.len
    exact fin i out ho (by omega) hvo hc ht
  | succ f ih =>
    intro i out ho hi hf hvo hc ht
    rw [reachGo]
    by_cases h : i < out.length
    · rw [if_pos h]
      obtain ⟨h1, ⟨e, h2⟩, h3, h4⟩ := reachRow_law (cons := cons) (rem := rem) (v := v) ho h hc n (Nat.le_refl _)
      refine ih (i + 1) _ h1 (by rw [h2]; simp only [List.length_append]; omega) (by omega) (by rw [h2]; exact List.mem_append_left _ hvo) h3 (fun t htt b hb ha hr => ?_)
      have hget : ∀ t, t < out.length → (reachRow cons rem i out n).getD t 0 = out.getD t 0 := fun t ht => by rw [h2]; simp [List.getD_eq_getElem?_getD, List.getElem?_append_left ht]
      rw [hget t (by omega)] at ha
      by_cases e' : t = i
      · subst e'; exact h4 b hb ha hr
      · rw [h2]; exact List.mem_append_left _ (ht t (by omega) b hb ha hr)
    · rw [if_neg h]
      exact fin i out ho (by omega) hvo hc ht
end
theorem reachS_conn {m : Mod} {v : Nat} {rem : List Int} (hv : v < m.doms.length) (b : Nat) :
    (b : Int) ∈ reachS m v rem ↔ Conn m.doms.length (Adj m.cons) (Gone rem) v b :=
  reachGo_law hv m.doms.length 0 [(v : Int)] ⟨by simp, fun x hx => by rw [List.mem_singleton.1 hx]; omega⟩ (Nat.zero_le _) (by omega) (by simp)
    (fun b hb => by have : b = v := by have := List.mem_singleton.1 hb; omega
                    subst this; exact .refl) (fun t h => absurd h (Nat.not_lt_zero t)) b
theorem ROk.one {n : Nat} {v : Int} (h : 0 ≤ v ∧ v < n) : ROk n [v] := ⟨by simp, fun x hx => by rw [List.mem_singleton.1 hx]; exact h⟩
theorem Conn.congr {n : Nat} {p : Nat → Nat → Prop} {w w' : Nat → Prop} {v b : Nat} (e : ∀ i, i < n → (w i ↔ w' i)) (h : Conn n p w v b) : Conn n p w' v b := by
  induction h with
  | refl => exact .refl
  | step _ hp hc hw ih => exact .step ih hp hc (fun h => hw ((e _ hc).2 h))
end Go.Proofs.Ytiilanckbocifaa
namespace Go.Proofs.Ytiilanckbocifaa
open Go
set_option linter.unusedSimpArgs false
set_option linter.unusedVariables false
theorem kl_fg {C : Cx} {ops : Array Oper} {Q : Post} {ims0 ims L0 L : List Hp} {G : Env} {fl : List Bool} {l : List Oper} [i : AllIn ims0 ims] (hl : List.Sublist L0 L) (h : KL C false ops Q ims0 L0 fl l G) : KL C false ops Q ims L fl l G :=
  fun a w hf hs => wpSeq_false (fun _ hu => (St.wl hl hu).ims) _ _ _ _ (h a w hf (hs.weak hl))
/-! Rounds of the program's walk. -/
def LkOk' (n : Nat) (o : Int) (f : Nat) : Prop := 0 ≤ o ∧ o < 2 ^ n ∧ (16 : Int) ≤ o + f
theorem lk_init {n : Nat} {v : Int} (hn : n ≤ 4) (hv : 0 ≤ v ∧ v < n) : LkOk' n (ishl 1 v) 16 := by
  obtain ⟨v, rfl⟩ := Int.eq_ofNat_of_zero_le hv.1
  rw [ishl_one (by omega)]
  refine ⟨Int.natCast_nonneg _, by exact_mod_cast Nat.pow_lt_pow_right (by decide) (by omega : v < n), ?_⟩
  have : (0 : Int) ≤ ((2 ^ v : Nat) : Int) := Int.natCast_nonneg _
  omega
theorem lk_stepT {g : List Int} {w o x : Int} {k : Nat} (h : x = lkTo g w o k) (c : hasB o (k : Int) = true) : ior x (iandNot (g.getD k 0) w) = lkTo g w o (k + 1) := by rw [lkTo_succ, if_pos c, ← h]
theorem lk_stepF {g : List Int} {w o x : Int} {k : Nat} (h : x = lkTo g w o k) (c : hasB o (k : Int) = false) : x = lkTo g w o (k + 1) := by rw [lkTo_succ, if_neg (by rw [c]; simp), ← h]
theorem lk_round {n : Nat} {g : List Int} {p : Nat → Nat → Prop} {w o x R : Int} {f k : Nat} (hg : MaskG n g p) (hn : n ≤ 4) (hw : 0 ≤ w) (h : lkIter g w f o = R ∧ LkOk' n o f) (hx : x = lkTo g w o k) (hk : k = n) (hne : ¬ x = o) :
    f - 1 < f ∧ lkIter g w (f - 1) x = R ∧ LkOk' n x (f - 1) := by
  subst hk
  obtain ⟨h1, h2, h3, h4⟩ := h
  obtain ⟨h5, h6⟩ := lkTo_bound hn hg hw h2 h3
  have h2n : 2 ^ k ≤ 2 ^ 4 := Nat.pow_le_pow_right (by decide) hn
  have h16 : ((2 : Int) ^ k) ≤ 16 := by have : ((2 ^ k : Nat) : Int) ≤ ((2 ^ 4 : Nat) : Int) := Int.ofNat_le.2 h2n; simpa using this
  rw [← hx] at h5 h6
  cases f with
  | zero => omega
  | succ f =>
    rw [lkIter, hg.1, ← hx, if_neg hne] at h1
    refine ⟨by omega, h1, by omega, h6, by simp only [Nat.add_sub_cancel]; omega⟩
theorem lk_ret {n : Nat} {g : List Int} {p : Nat → Nat → Prop} {w o x R : Int} {f k : Nat} (hg : MaskG n g p) (h : lkIter g w f o = R ∧ LkOk' n o f) (hx : x = lkTo g w o k) (hk : k = n) (he : x = o) : o = R := by
  rw [← h.1, lkIter_fix]
  rw [hg.1, ← hk, ← hx, he]
/-! Sets of variables. -/
def ascAt (vars : List Int) (i : Nat) : Bool := !(decide ((0 : Int) < i) && decide (vars.getD i 0 ≤ vars.getD ((i : Int) - 1).toNat 0))
def ascB (vars : List Int) : Bool := (List.range vars.length).all (ascAt vars)
theorem asc_step {vars : List Int} {k : Nat} (h : (List.range k).all (ascAt vars) = true) (c : ¬ vars.getD k 0 ≤ vars.getD ((k : Int) - 1).toNat 0) : (List.range (k + 1)).all (ascAt vars) = true := by
  simp only [List.range_succ, List.all_append, h]; simp [ascAt] at *; exact .inr c
theorem asc_no {vars : List Int} {k : Nat} {b : Bool} (h1 : 1 ≤ k) (hk : k < vars.length) (c : vars.getD k 0 ≤ vars.getD ((k : Int) - 1).toNat 0) : false = (ascB vars && b) := by
  have : ascB vars = false := by
    rw [ascB, List.all_eq_false]; refine ⟨k, List.mem_range.2 hk, ?_⟩
    unfold ascAt
    rw [decide_eq_true c, decide_eq_true (by omega : (0 : Int) < (k : Int))]; simp
  rw [this]; rfl
theorem asc_yes {vars : List Int} {k : Nat} {b : Bool} (hk : vars.length ≤ k) (h : (List.range k).all (ascAt vars) = true) : b = (ascB vars && b) := by
  have : ascB vars = true := by
    rw [ascB, List.all_eq_true]; intro i hi
    rw [List.all_eq_true] at h
    exact h i (List.mem_range.2 (Nat.lt_of_lt_of_le (List.mem_range.1 hi) hk))
  rw [this]; rfl
theorem varSetS_eq (n : Nat) (vars : List Int) : varSetS n vars = (ascB vars && allInB vars 0 ((n : Int) - 1)) := by
  have e : allInB vars 0 ((n : Int) - 1) = (List.range vars.length).all (fun i => withinB (vars.getD i 0) 0 ((n : Int) - 1)) := by
    rw [Bool.eq_iff_iff]
    simp only [allInB, List.all_eq_true]
    constructor
    · intro h i hi; exact h _ (getD_mem (List.mem_range.1 hi))
    · intro h x hx
      obtain ⟨i, h1, h2⟩ := List.mem_iff_getElem.1 hx
      have := h i (List.mem_range.2 h1)
      rwa [List.getD_eq_getElem?_getD, List.getElem?_eq_getElem h1, Option.getD_some, h2] at this
  rw [e, ascB, varSetS, varSetTo, Bool.eq_iff_iff]
  simp only [Bool.and_eq_true, List.all_eq_true, varSetAt, ascAt]
  constructor
  · intro h; exact ⟨fun i hi => (h i hi).2, fun i hi => (h i hi).1⟩
  · rintro ⟨h1, h2⟩ i hi; exact ⟨h2 i hi, h1 i hi⟩
def varsInB (m : Mod) (vars : List Int) : Bool := validModB m && allInB vars 0 ((m.doms.length : Int) - 1)
def varSetI (m : Mod) (vars : List Int) : Bool := ascB vars && varsInB m vars
def withF (w x : Int) : Int := ior w (ishl 1 x)
def withoutI (vars : List Int) : Int := vars.foldl withF 0
theorem with_nat {n : Nat} (hn : n ≤ 4) : ∀ {vars : List Int} {w : Nat}, (∀ x ∈ vars, (0 : Int) ≤ x ∧ x < n) → w < 2 ^ n →
    ∃ x : Nat, vars.foldl withF (w : Int) = (x : Int) ∧ x < 2 ^ n ∧ ∀ b, x.testBit b = true ↔ w.testBit b = true ∨ (b : Int) ∈ vars
  | [], w, _, hw => ⟨w, rfl, hw, fun b => by simp⟩
  | v :: vars, w, h, hw => by
    have h2n : 2 ^ n ≤ 2 ^ 4 := Nat.pow_le_pow_right (by decide) hn
    have hv := h v (.head _)
    obtain ⟨v, rfl⟩ := Int.eq_ofNat_of_zero_le hv.1
    have h1 : 2 ^ v < 2 ^ n := Nat.pow_lt_pow_right (by decide) (by omega)
    obtain ⟨x, h3, h4, h5⟩ := with_nat hn (vars := vars) (w := w ||| 2 ^ v) (fun x hx => h x (.tail _ hx)) (Nat.or_lt_two_pow hw h1)
    refine ⟨x, ?_, h4, fun b => ?_⟩
    · rw [List.foldl_cons, withF, ishl_one (by omega), ior_nat (by omega) (by omega)]; exact h3
    · rw [h5, Nat.testBit_or, Bool.or_eq_true, Nat.testBit_two_pow, decide_eq_true_eq, List.mem_cons]
      constructor
      · rintro ((h | h) | h)
        · exact .inl h
        · exact .inr (.inl (by omega))
        · exact .inr (.inr h)
      · rintro (h | h | h)
        · exact .inl (.inl h)
        · exact .inl (.inr (by omega))
        · exact .inr h
theorem withoutI_nat {n : Nat} (hn : n ≤ 4) {vars : List Int} (h : ∀ x ∈ vars, (0 : Int) ≤ x ∧ x < n) : ∃ x : Nat, withoutI vars = (x : Int) ∧ ∀ b, x.testBit b = true ↔ (b : Int) ∈ vars := by
  obtain ⟨x, h1, _, h3⟩ := with_nat hn (w := 0) h (Nat.two_pow_pos n)
  exact ⟨x, h1, fun b => by rw [h3]; simp⟩
/-! Valid models. -/
theorem allInB_iff {xs : List Int} {lo hi : Int} : allInB xs lo hi = true ↔ ∀ x ∈ xs, lo ≤ x ∧ x ≤ hi := by simp [allInB, List.all_eq_true, withinB]
theorem valid_n {m : Mod} (h : validModB m = true) : 1 ≤ m.doms.length ∧ m.doms.length ≤ 4 := by
  simp only [validModB, domainsOkB, Bool.and_eq_true, withinB_iff] at h; omega
theorem valid_in {m : Mod} (h : validModB m = true) : InN m.cons m.doms.length := fun c hc a ha => by
  simp only [validModB, Bool.and_eq_true, List.all_eq_true] at h
  have := h.2 c hc
  simp only [validConB, Bool.and_eq_true] at this
  have := allInB_iff.1 this.1.1.2 a ha
  omega
/-! Separators. -/
def sepCI (m : Mod) (vars : List Int) (u v : Int) : Bool := ((!(varSetI m vars) || !(varsInB m [u, v])) || vars.contains u) || vars.contains v
def sepI (m : Mod) (vars : List Int) (u v : Int) : Bool := if sepCI m vars u v = true then false else !(hasB (linkedI m u (withoutI vars)) v)
def sepCS (m : Mod) (vars : List Int) (u v : Int) : Bool :=
  ((((!(validModB m) || !(varSetS m.doms.length vars)) || !(withinB u 0 ((m.doms.length : Int) - 1))) || !(withinB v 0 ((m.doms.length : Int) - 1))) || vars.contains u) || vars.contains v
def sepS (m : Mod) (vars : List Int) (u v : Int) : Bool := if sepCS m vars u v = true then false else !((reachS m u vars).contains v)
theorem sepC_eq (m : Mod) (vars : List Int) (u v : Int) : sepCI m vars u v = sepCS m vars u v := by
  simp only [sepCI, sepCS, varSetI, varsInB, varSetS_eq, allInB, List.all_cons, List.all_nil, Bool.and_true]
  cases validModB m <;> cases ascB vars <;> cases (vars.all fun n => withinB n 0 ((m.doms.length : Int) - 1)) <;> cases withinB u 0 ((m.doms.length : Int) - 1) <;> cases withinB v 0 ((m.doms.length : Int) - 1) <;> simp
structure SepOk (m : Mod) (vars : List Int) (u v : Int) : Prop where
  n1 : 1 ≤ m.doms.length
  n : m.doms.length ≤ 4
  i : InN m.cons m.doms.length
  vs : ∀ x ∈ vars, (0 : Int) ≤ x ∧ x < m.doms.length
  u : 0 ≤ u ∧ u < m.doms.length
  v : 0 ≤ v ∧ v < m.doms.length
theorem sep_ok {m : Mod} {vars : List Int} {u v : Int} (h : sepCS m vars u v = false) : SepOk m vars u v := by
  simp only [sepCS, Bool.or_eq_false_iff, Bool.not_eq_false', varSetS_eq, Bool.and_eq_true, withinB_iff, allInB_iff] at h
  obtain ⟨⟨⟨⟨⟨h1, _, h2⟩, h3⟩, h4⟩, _⟩, _⟩ := h
  have hn := valid_n h1
  exact ⟨hn.1, hn.2, valid_in h1, fun x hx => by have := h2 x hx; omega, by omega, by omega⟩
theorem sep_okI {m : Mod} {vars : List Int} {u v : Int} (h : sepCI m vars u v = false) : SepOk m vars u v := sep_ok (by rw [← sepC_eq]; exact h)
theorem SepOk.w {m : Mod} {vars : List Int} {u v : Int} (h : SepOk m vars u v) : 0 ≤ withoutI vars := by
  obtain ⟨x, h1, _⟩ := withoutI_nat h.n h.vs; rw [h1]; exact Int.natCast_nonneg _
theorem sep_eq (m : Mod) (vars : List Int) (u v : Int) : sepI m vars u v = sepS m vars u v := by
  simp only [sepI, sepS, sepC_eq]
  cases hc : sepCS m vars u v with
  | true => rfl
  | false =>
    simp only [Bool.false_eq_true, if_false]
    congr 1
    have h := sep_ok hc
    obtain ⟨u, rfl⟩ := Int.eq_ofNat_of_zero_le h.u.1
    obtain ⟨v, rfl⟩ := Int.eq_ofNat_of_zero_le h.v.1
    obtain ⟨w, hw, hwb⟩ := withoutI_nat h.n h.vs
    have hu := h.u.2
    have hv := h.v.2
    have hn := h.n
    obtain ⟨x, h1, h2, h3⟩ := linkedI_conn h.n h.i (w := w) (v := u) (by omega)
    have h2n : 2 ^ m.doms.length ≤ 2 ^ 4 := Nat.pow_le_pow_right (by decide) h.n
    rw [hw, h1, hasB_nat (by omega) (by omega), Bool.eq_iff_iff, h3, List.contains_iff_mem, reachS_conn (by omega)]
    exact ⟨Conn.congr (fun i _ => hwb i), Conn.congr (fun i _ => (hwb i).symm)⟩
theorem small_of {m : Mod} (h : szB 1048576 (modN m : Nat) = 1048576 - (modN m : Nat) ∧ (0 : Int) ≤ 1048576 - (modN m : Nat)) : SmallM m := by simp only [SmallM]; omega
end Go.Proofs.Ytiilanckbocifaa
namespace Go.Proofs.Ytiilanckbocifaa
open Go
set_option linter.unusedSimpArgs false
set_option linter.unusedVariables false
def natsI (xs : List Nat) : List Int := xs.map (fun (i : Nat) => (i : Int))
def membersTo (b : Int) (k : Nat) : List Int := natsI ((List.range k).filter (fun (i : Nat) => hasB b (i : Int)))
def membersI (b : Int) : List Int := membersTo b 63
theorem filter_succ (p : Nat → Bool) (k : Nat) : (List.range (k + 1)).filter p = (List.range k).filter p ++ (if p k = true then [k] else []) := by
  rw [List.range_succ, List.filter_append]; congr 1
  by_cases h : p k = true
  · simp [h]
  · simp [h]
theorem members_stepT {b : Int} {k : Nat} {out : List Int} (h : out = membersTo b k) (c : hasB b (k : Int) = true) : out ++ [(k : Int)] = membersTo b (k + 1) := by
  subst h; simp only [membersTo, natsI, filter_succ, c, if_true, List.map_append, List.map_cons, List.map_nil]
theorem members_stepF {b : Int} {k : Nat} {out : List Int} (h : out = membersTo b k) (c : hasB b (k : Int) = false) : out = membersTo b (k + 1) := by
  subst h; simp only [membersTo, natsI, filter_succ, c, Bool.false_eq_true, if_false, List.append_nil]
theorem ishr_pos {b : Int} {k : Nat} (h0 : 0 ≤ b) (h1 : b < 2 ^ 63) (hk : k ≤ 63) (h : (0 : Int) < ishr b (k : Int)) : k < 63 := by
  obtain ⟨b, rfl⟩ := Int.eq_ofNat_of_zero_le h0
  rw [ishr_nat (by omega)] at h
  refine Nat.lt_of_le_of_ne hk (fun e => ?_)
  subst e
  have h2 : b < 2 ^ 63 := by exact_mod_cast h1
  rw [Nat.shiftRight_eq_div_pow, Nat.div_eq_of_lt h2] at h
  simp at h
theorem members_end {b : Int} {k : Nat} {out : List Int} (h0 : 0 ≤ b) (h1 : b < 2 ^ 63) (hk : k ≤ 63) (h : out = membersTo b k) (c : ¬ (0 : Int) < ishr b (k : Int)) : out = membersI b := by
  subst h
  obtain ⟨b, rfl⟩ := Int.eq_ofNat_of_zero_le h0
  have h2 : b < 2 ^ 63 := by exact_mod_cast h1
  rw [ishr_nat (by omega)] at c
  have hz : b >>> k = 0 := Nat.eq_zero_of_not_pos (fun h => c (by exact_mod_cast h))
  unfold membersI
  have key : ∀ j, k + j ≤ 63 → membersTo (b : Int) k = membersTo (b : Int) (k + j) := fun j => by
    induction j with
    | zero => intro _; rfl
    | succ j ih =>
      intro hj
      rw [ih (by omega), show k + (j + 1) = (k + j) + 1 from rfl]
      refine members_stepF rfl ?_
      rw [hasB_nat h2 (by omega)]
      have h3 : b < 2 ^ k := by
        rw [Nat.shiftRight_eq_div_pow] at hz
        exact (Nat.div_eq_zero_iff.1 hz).resolve_left (Nat.ne_of_gt (Nat.two_pow_pos k))
      exact Nat.testBit_lt_two_pow (Nat.lt_of_lt_of_le h3 (Nat.pow_le_pow_right (by decide) (by omega)))
  have := key (63 - k) (by omega)
  rw [show k + (63 - k) = 63 by omega] at this
  exact this
theorem members_len {b : Int} {k : Nat} {out : List Int} (h : out = membersTo b k) : out.length ≤ k := by
  subst h; simp only [membersTo, natsI, List.length_map]; exact Nat.le_trans (List.length_filter_le _ _) (by simp)
theorem adjB_comm (cons : List Con) (u v : Int) : adjB cons u v = adjB cons v u := by
  simp only [adjB]; congr 1; funext c; simp only [joins]
  rw [Bool.and_right_comm]
  congr 2
  exact decide_eq_decide.2 ⟨fun h e => h e.symm, fun h e => h e.symm⟩
/-- The reference's list: the indexes that answer yes. -/
def nbTo (m : Mod) (v : Int) (k : Nat) : List Int := natsI ((List.range k).filter (fun (u : Nat) => adjB m.cons (u : Int) v))
theorem nb_stepT {m : Mod} {v : Int} {k : Nat} {out : List Int} (h : out = nbTo m v k) (c : adjB m.cons (k : Int) v = true) : out ++ [(k : Int)] = nbTo m v (k + 1) := by
  subst h; simp only [nbTo, natsI, filter_succ, c, if_true, List.map_append, List.map_cons, List.map_nil]
theorem nb_stepF {m : Mod} {v : Int} {k : Nat} {out : List Int} (h : out = nbTo m v k) (c : adjB m.cons (k : Int) v = false) : out = nbTo m v (k + 1) := by
  subst h; simp only [nbTo, natsI, filter_succ, c, Bool.false_eq_true, if_false, List.append_nil]
theorem nb_len {m : Mod} {v : Int} {k : Nat} {out : List Int} (h : out = nbTo m v k) : out.length ≤ k := by
  subst h; simp only [nbTo, natsI, List.length_map]; exact Nat.le_trans (List.length_filter_le _ _) (by simp)
def nbCS (m : Mod) (v : Int) : Bool := !(validModB m) || !(withinB v 0 ((m.doms.length : Int) - 1))
def nbS (m : Mod) (v : Int) : List Int := if nbCS m v = true then [] else nbTo m v m.doms.length
def nbI (m : Mod) (v : Int) : List Int := if (!(varsInB m [v])) = true then [] else membersI ((graphI m).getD v.toNat 0)
theorem nb_end {m : Mod} {v : Int} {k : Nat} {out : List Int} (h : out = nbTo m v k) (hk : k = m.doms.length) (c : nbCS m v = false) : out = nbS m v := by
  subst hk; rw [h, nbS, if_neg (by rw [c]; simp)]
theorem nbC_eq (m : Mod) (v : Int) : (!(varsInB m [v])) = nbCS m v := by
  simp only [varsInB, nbCS, allInB, List.all_cons, List.all_nil, Bool.and_true, Bool.not_and]
structure NbOk (m : Mod) (v : Int) : Prop where
  n1 : 1 ≤ m.doms.length
  n : m.doms.length ≤ 4
  i : InN m.cons m.doms.length
  v : 0 ≤ v ∧ v < m.doms.length
theorem nb_ok {m : Mod} {v : Int} (h : nbCS m v = false) : NbOk m v := by
  simp only [nbCS, Bool.or_eq_false_iff, Bool.not_eq_false', withinB_iff] at h
  have hn := valid_n h.1
  exact ⟨hn.1, hn.2, valid_in h.1, by omega⟩
theorem nb_okI {m : Mod} {v : Int} (h : (!(varsInB m [v])) = false) : NbOk m v := nb_ok (by rw [← nbC_eq]; exact h)
theorem NbOk.mask {m : Mod} {v : Int} (h : NbOk m v) : (graphI m).length = m.doms.length ∧ 0 ≤ (graphI m).getD v.toNat 0 ∧ (graphI m).getD v.toNat 0 < 2 ^ 63 := by
  have hn := h.n
  have hg := graphI_mask (by omega) h.i
  have hv := h.v
  obtain ⟨x, h1, h2⟩ := hg.2 v.toNat (by omega)
  refine ⟨hg.1, by rw [h1]; exact Int.natCast_nonneg _, ?_⟩
  rw [h1]
  have : x < 2 ^ m.doms.length := lt_of_bits (fun b hb => ((h2 b).1 hb).1)
  have h3 : 2 ^ m.doms.length ≤ 2 ^ 63 := Nat.pow_le_pow_right (by decide) (by omega)
  exact_mod_cast Nat.lt_of_lt_of_le this h3
theorem nb_eq (m : Mod) (v : Int) : nbI m v = nbS m v := by
  simp only [nbI, nbS, nbC_eq]
  cases hc : nbCS m v with
  | true => rfl
  | false =>
    simp only [Bool.false_eq_true, if_false]
    have h := nb_ok hc
    have hn := h.n
    have hg := graphI_mask (by omega) h.i
    obtain ⟨v, rfl⟩ := Int.eq_ofNat_of_zero_le h.v.1
    have hv := h.v.2
    obtain ⟨x, h1, h2⟩ := hg.2 v (by omega)
    have hx : x < 2 ^ 63 := Nat.lt_of_lt_of_le (lt_of_bits (fun b hb => ((h2 b).1 hb).1)) (Nat.pow_le_pow_right (by decide) (by omega : m.doms.length ≤ 63))
    rw [Int.toNat_natCast, h1]
    unfold membersI membersTo nbTo
    congr 1
    obtain ⟨j, hj⟩ : ∃ j, 63 = m.doms.length + j := ⟨63 - m.doms.length, by omega⟩
    rw [hj, List.range_add, List.filter_append]
    have e2 : (List.map (fun x => m.doms.length + x) (List.range j)).filter (fun (i : Nat) => hasB (x : Int) (i : Int)) = [] := by
      rw [List.filter_eq_nil_iff]
      intro i hi hb
      obtain ⟨q, hq, rfl⟩ := List.mem_map.1 hi
      have hq' := List.mem_range.1 hq
      rw [hasB_nat hx (by omega), h2] at hb
      omega
    rw [e2, List.append_nil]
    refine List.filter_congr (fun i hi => ?_)
    have hi' := List.mem_range.1 hi
    rw [hasB_nat hx (by omega), adjB_comm m.cons (i : Int) (v : Int), Bool.eq_iff_iff, h2]
    exact ⟨fun h => h.2, fun h => ⟨hi', h⟩⟩
end Go.Proofs.Ytiilanckbocifaa
namespace Go.Proofs.Ytiilanckbocifaa
open Go
set_option linter.unusedSimpArgs false
set_option linter.unusedVariables false
theorem getD_map {A N : Type} {m : A → N} {q a : List A} (l : q.map m = a.map m) (d : A) (k : Nat) : m (q.getD k d) = m (a.getD k d) := by
  have h := congrArg (fun z => z[k]?) l
  simp only [List.getElem?_map] at h
  rw [List.getD_eq_getElem?_getD, List.getD_eq_getElem?_getD]
  cases h1 : q[k]? <;> cases h2 : a[k]? <;> simp_all
theorem getD_len {q a : List (List Int)} (l : q.map List.length = a.map List.length) (k : Nat) : (q.getD k []).length = (a.getD k []).length := getD_map l [] k
theorem rsum_of {q a : List (List Int)} (l : q.map List.length = a.map List.length) : rsum q = rsum a := by simp only [rsum, l]
theorem conSz_of {c c' : Con} (h : conSz c' = conSz c) : c'.vars.length = c.vars.length ∧ c'.args.length = c.args.length ∧ c'.rows.length = c.rows.length ∧ rsum c'.rows = rsum c.rows := by
  simp only [conSz, Prod.mk.injEq] at h
  exact ⟨h.1, h.2.1, len_of h.2.2, rsum_of h.2.2⟩
theorem getD_con {q a : List Con} (l : q.map conSz = a.map conSz) (k : Nat) : (q.getD k nilCon).vars.length = (a.getD k nilCon).vars.length ∧ (q.getD k nilCon).args.length = (a.getD k nilCon).args.length ∧ (q.getD k nilCon).rows.length = (a.getD k nilCon).rows.length ∧ rsum (q.getD k nilCon).rows = rsum (a.getD k nilCon).rows := conSz_of (getD_map l nilCon k)
def mcN (c : Con) : Nat := 2 + c.vars.length + c.args.length + rsum c.rows
def msum (cs : List Con) : Nat := (cs.map mcN).sum
theorem msum_of {q a : List Con} (l : q.map conSz = a.map conSz) : msum q = msum a := by
  have : q.map mcN = a.map mcN := by
    have e : ∀ c : Con, mcN c = (fun (z : Nat × Nat × List Nat) => 2 + z.1 + z.2.1 + z.2.2.sum) (conSz c) := fun c => rfl
    have e2 : mcN = (fun (z : Nat × Nat × List Nat) => 2 + z.1 + z.2.1 + z.2.2.sum) ∘ conSz := funext e
    rw [e2, ← List.map_map, ← List.map_map, l]
  simp only [msum, this]
theorem msum_step {xs : List Con} {k : Nat} (h : k < xs.length) : msum (xs.take (k + 1)) = msum (xs.take k) + mcN (xs.getD k nilCon) := by
  rw [take_succ_getD nilCon h]; simp [msum]
theorem msum_le (xs : List Con) (k : Nat) : msum (xs.take k) ≤ msum xs := by simp only [msum, List.map_take]; exact sum_take_le _ _
theorem msum_csum (cs : List Con) : msum cs ≤ 2 * cs.length + csum cs := by
  induction cs with
  | nil => simp [msum]
  | cons c cs ih =>
    simp only [msum, csum, List.map_cons, List.sum_cons, List.length_cons] at *
    have : mcN c ≤ 2 + conN c := by simp only [mcN, conN]; omega
    omega
theorem SmallM.marks {m : Mod} (h : SmallM m) : m.doms.length + msum m.cons ≤ 4194304 := by
  have := msum_csum m.cons
  simp only [SmallM, modN] at h; omega
/-- The list while it is being marked, and behind it. -/
def markL (k : Int) (n : Nat) : List Int := (List.range n).map (fun (j : Nat) => k + (j : Int))
def markTo (k : Int) (a : List Int) (i : Nat) : List Int := markL k i ++ a.drop i
theorem mark_len {k : Int} {a : List Int} {i : Nat} (h : i ≤ a.length) : (markTo k a i).length = a.length := by simp [markTo, markL]; omega
theorem mark_step {k l : Int} {a : List Int} {i : Nat} (e : l = k + (i : Int)) (h : i < a.length) : (markTo k a i).set i l = markTo k a (i + 1) := by
  subst e
  unfold markTo
  rw [List.set_append_right _ _ (by simp [markL])]
  have e1 : i - (markL k i).length = 0 := by simp [markL]
  rw [e1, List.drop_eq_getElem_cons h, List.set_cons_zero]
  simp [markL, List.range_succ]
theorem mark_end {k : Int} {a : List Int} {i : Nat} (h : i = a.length) : markTo k a i = markL k a.length := by subst h; simp [markTo]
theorem markL_get {k : Int} {n i : Nat} (h : i < n) : (markL k n).getD i 0 = k + (i : Int) := by
  simp [markL, List.getD_eq_getElem?_getD, h]
theorem markL_len (k : Int) (n : Nat) : (markL k n).length = n := by simp [markL]
/-- Whether a list is marked from k on: what the test returns. -/
def heldI (a : List Int) (k : Int) : Int := if a = markL k a.length then k + (a.length : Int) else -1
theorem held_no {a : List Int} {k l : Int} {i : Nat} (hi : i < a.length) (e : l = k + (i : Int)) (h : a.getD i 0 ≠ l) : (-1 : Int) = heldI a k := by
  unfold heldI; rw [if_neg]; intro h1
  refine h ?_
  rw [h1, markL_get hi, e]
theorem held_yes {a : List Int} {k l : Int} {i : Nat} (hi : ¬ (i : Int) < (a.length : Int)) (hk : i ≤ a.length) (e : l = k + (i : Int) ∧ a.take i = markL k i) : l = heldI a k := by
  obtain ⟨e1, e2⟩ := e
  have h : i = a.length := by omega
  subst h
  rw [List.take_of_length_le (Nat.le_refl _)] at e2
  unfold heldI; rw [if_pos e2, e1]
theorem held_step {a : List Int} {k l : Int} {i : Nat} (hi : i < a.length) (e : l = k + (i : Int)) (h1 : a.take i = markL k i) (h : a.getD i 0 = l) : a.take (i + 1) = markL k (i + 1) := by
  rw [take_succ_getD 0 hi, h1, h, e]; simp [markL, List.range_succ]
theorem held_mark (k : Int) (n : Nat) : heldI (markL k n) k = k + (n : Int) := by unfold heldI; rw [markL_len, if_pos rfl]
end Go.Proofs.Ytiilanckbocifaa
