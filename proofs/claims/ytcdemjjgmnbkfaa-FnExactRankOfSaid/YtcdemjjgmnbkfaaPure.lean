/- Plain functions on lists and models: what the program's functions come to. No program in sight. Conditions: none. -/
import Derived.Test.YtcdemjjgmnbkfaaFin
namespace Go.Proofs.Ytcdemjjgmnbkfaa
open Go
set_option linter.unusedSimpArgs false
set_option linter.unusedVariables false

theorem litInts {H : Hp} {v : Value} {xs : List Int} (h : Sl H 1 (fun cs u => cs = [u]) v (xs.map (Value.int .i64))) : Ints H v xs := by
  obtain ⟨a, c, hv, h1, h2, h3⟩ := h
  simp only [List.length_map] at hv h1 h2 h3
  refine ⟨a, c, hv, h1, h2, fun i hi => ?_⟩
  obtain ⟨b, o, e, vs, hl, hr, hat⟩ := h3 i hi
  exact ⟨b, o, e, vs, hl, (by simpa using hr : vs = [_]), hat⟩
theorem litBools {H : Hp} {v : Value} {xs : List Bool} (h : Sl H 1 (fun cs u => cs = [u]) v (xs.map Value.bool)) : Bools H v xs := by
  obtain ⟨a, c, hv, h1, h2, h3⟩ := h
  simp only [List.length_map] at hv h1 h2 h3
  refine ⟨a, c, hv, h1, h2, fun i hi => ?_⟩
  obtain ⟨b, o, e, vs, hl, hr, hat⟩ := h3 i hi
  exact ⟨b, o, e, vs, hl, (by simpa using hr : vs = [_]), hat⟩

/-! Lists. -/
theorem getD_mem {A : Type} {xs : List A} {i : Nat} {d : A} (h : i < xs.length) : xs.getD i d ∈ xs := by
  rw [List.getD_eq_getElem?_getD, List.getElem?_eq_getElem h]; simp
theorem take_succ_getD {A : Type} {xs : List A} {k : Nat} (d : A) (h : k < xs.length) : xs.take (k + 1) = xs.take k ++ [xs.getD k d] := by
  rw [List.take_succ_eq_append_getElem h, List.getD_eq_getElem?_getD, List.getElem?_eq_getElem h]; simp
theorem all_take_step {A : Type} {xs : List A} {k : Nat} {p : A → Bool} {d : A} (h : k < xs.length) (hp : (xs.take k).all p = true) (hk : p (xs.getD k d) = true) : (xs.take (k + 1)).all p = true := by
  rw [take_succ_getD d h, List.all_append, hp]; simp at hk ⊢; exact hk
theorem all_false {A : Type} {xs : List A} {k : Nat} {p : A → Bool} {d : A} (h : k < xs.length) (hk : p (xs.getD k d) = false) : xs.all p = false := by
  rw [List.all_eq_false]; exact ⟨xs.getD k d, getD_mem h, by rw [hk]; simp⟩
theorem any_take_step {A : Type} {xs : List A} {k : Nat} {p : A → Bool} {d : A} (h : k < xs.length) (hp : (xs.take k).any p = false) (hk : p (xs.getD k d) = false) : (xs.take (k + 1)).any p = false := by
  rw [take_succ_getD d h, List.any_append, hp]; simp at hk ⊢; exact hk
theorem any_true {A : Type} {xs : List A} {k : Nat} {p : A → Bool} {d : A} (h : k < xs.length) (hk : p (xs.getD k d) = true) : xs.any p = true := by
  rw [List.any_eq_true]; exact ⟨_, getD_mem h, hk⟩

def withinB (n lo hi : Int) : Bool := decide (lo ≤ n) && decide (n ≤ hi)
theorem withinB_iff {n lo hi : Int} : withinB n lo hi = true ↔ lo ≤ n ∧ n ≤ hi := by simp [withinB]
/-- The first index whose element answers yes, or -1. -/
def indexBy {A : Type} (p : A → Bool) (xs : List A) : Int := match xs.findIdx? p with | some i => (i : Int) | none => -1
theorem indexBy_hit {A : Type} {p : A → Bool} {xs : List A} {k : Nat} {d : A} (hk : k < xs.length) (hp : (xs.take k).any p = false) (h : p (xs.getD k d) = true) : (k : Int) = indexBy p xs := by
  have : xs.findIdx? p = some k := by
    rw [List.findIdx?_eq_some_iff_getElem]
    refine ⟨hk, ?_, fun j hj => ?_⟩
    · rw [List.getD_eq_getElem?_getD, List.getElem?_eq_getElem hk] at h; simpa using h
    · rw [List.any_eq_false] at hp
      have := hp (xs[j]) (by rw [List.mem_take_iff_getElem]; exact ⟨j, by omega, rfl⟩)
      simpa using this
  simp [indexBy, this]
theorem indexBy_none {A : Type} {p : A → Bool} {xs : List A} {k : Nat} (hk : ¬ (k : Int) < (xs.length : Int)) (hp : (xs.take k).any p = false) : (-1 : Int) = indexBy p xs := by
  have : xs.findIdx? p = none := by
    rw [List.findIdx?_eq_none_iff]
    intro x hx
    rw [List.take_of_length_le (by omega), List.any_eq_false] at hp
    simpa using hp x hx
  simp [indexBy, this]
theorem indexBy_any {A : Type} (p : A → Bool) (xs : List A) : decide ((0 : Int) ≤ indexBy p xs) = xs.any p := by
  unfold indexBy
  cases h : xs.findIdx? p with
  | none =>
    have : xs.any p = false := by rw [List.any_eq_false]; intro x hx; have := (List.findIdx?_eq_none_iff.1 h) x hx; simp [this]
    simp [this]
  | some i =>
    have := (List.findIdx?_eq_some_iff_getElem.1 h)
    obtain ⟨h1, h2, _⟩ := this
    have : xs.any p = true := by rw [List.any_eq_true]; exact ⟨xs[i], List.getElem_mem h1, h2⟩
    simp [this]
def allInB (xs : List Int) (lo hi : Int) : Bool := xs.all fun n => withinB n lo hi
def distinctB (xs : List Int) : Bool := decide xs.Nodup
theorem nodup_take_succ {xs : List Int} {k : Nat} (h : k < xs.length) : (xs.take (k + 1)).Nodup ↔ (xs.take k).Nodup ∧ xs.getD k 0 ∉ xs.take k := by
  rw [take_succ_getD 0 h, List.nodup_append]
  constructor
  · rintro ⟨h1, _, h2⟩; exact ⟨h1, fun h3 => h2 _ h3 _ (.head _) rfl⟩
  · rintro ⟨h1, h2⟩; exact ⟨h1, by simp, fun a ha b hb e => h2 (by have hb' := List.mem_singleton.1 hb; subst hb'; exact e ▸ ha)⟩
theorem nodup_not {xs : List Int} {k : Nat} (h : k < xs.length) (hm : xs.getD k 0 ∈ xs.take k) : ¬ xs.Nodup := fun hn => by
  have := (nodup_take_succ h).1 (hn.sublist (List.take_sublist _ _))
  exact this.2 hm

/-! Models. -/
def validDomB (d : Int) : Bool := withinB d 0 63
def rowsInB (rows : List (List Int)) (n lo hi : Int) : Bool := withinB rows.length 1 8 && rows.all fun r => decide ((r.length : Int) = n) && allInB r lo hi
def fitsB (c : Con) : Bool :=
  if c.kind = 1 then (decide ((c.args.length : Int) = c.vars.length) && allInB c.args (-9) 9) && withinB c.bound (-999) 999 && decide ((c.rows.length : Int) = 0)
  else if c.kind = 2 then decide ((c.vars.length : Int) = 2) && (decide ((c.args.length : Int) = 1) && allInB c.args (-9) 9) && decide (c.bound = 0) && decide ((c.rows.length : Int) = 0)
  else if c.kind = 3 ∨ c.kind = 9 then decide ((c.args.length : Int) = 0) && decide (c.bound = 0) && decide ((c.rows.length : Int) = 0)
  else if c.kind = 4 then decide ((c.vars.length : Int) = 2) && withinB c.args.length 1 6 && allInB c.args 0 5 && decide (c.bound = 0) && decide ((c.rows.length : Int) = 0)
  else if c.kind = 5 then decide ((c.args.length : Int) = 0) && decide (c.bound = 0) && rowsInB c.rows c.vars.length 0 5
  else if c.kind = 6 then (decide ((c.args.length : Int) = 1) && allInB c.args 0 5) && withinB c.bound 0 4 && decide ((c.rows.length : Int) = 0)
  else if c.kind = 7 then (decide ((c.args.length : Int) = 2 * c.vars.length) && allInB c.args 0 9) && withinB c.bound 0 9 && decide ((c.rows.length : Int) = 0)
  else if c.kind = 8 then rowsInB c.rows 6 (-1) (c.rows.length - 1) && distinctB c.args && allInB c.args 0 (c.rows.length - 1) && decide (c.bound = 0)
  else false
def validConB (c : Con) (n : Int) : Bool := withinB n 1 4 && withinB c.vars.length 1 n && allInB c.vars 0 (n - 1) && distinctB c.vars && fitsB c
def domainsOkB (ds : List Int) : Bool := withinB ds.length 1 4 && allInB ds 0 63
def validModB (m : Mod) : Bool := domainsOkB m.doms && decide ((m.cons.length : Int) ≤ 6) && m.cons.all fun c => validConB c m.doms.length
end Go.Proofs.Ytcdemjjgmnbkfaa
