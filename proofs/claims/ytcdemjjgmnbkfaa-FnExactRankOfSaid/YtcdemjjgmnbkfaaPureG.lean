/- Separators: the program's answer and the reference's are the same. No program in sight. Conditions: none. -/
import Derived.Test.YtcdemjjgmnbkfaaPureF
namespace Go.Proofs.Ytcdemjjgmnbkfaa
open Go
set_option linter.unusedSimpArgs false
set_option linter.unusedVariables false
theorem kl_fg {C : Cx} {ops : Array Oper} {Q : Post} {ims0 ims L0 L : List Hp} {G : Env} {fl : List Bool} {l : List Oper} [i : AllIn ims0 ims] (hl : List.Sublist L0 L) (h : KL C false ops Q ims0 L0 fl l G) : KL C false ops Q ims L fl l G :=
  fun a w hf hs => wpSeq_false (fun _ hu => (St.wl hl hu).ims) _ _ _ _ (h a w hf (hs.weak hl))
/-! Rounds of the program's walk. -/
def LkOk' (n : Nat) (o : Int) (f : Nat) : Prop := 0 ≤ o ∧ o < 2 ^ n ∧ (16 : Int) ≤ o + f
theorem lk_init {n : Nat} {v : Int} (hn : n ≤ 4) (hv : 0 ≤ v ∧ v < n) : LkOk' n (ishl 1 v) 16 := by
  obtain ⟨v, rfl⟩ := Int.eq_ofNat_of_zero_le hv.1
  rw [ishl_one (by omega)]
  refine ⟨Int.natCast_nonneg _, by exact_mod_cast Nat.pow_lt_pow_right (by decide) (by omega : v < n), ?_⟩
  have : (0 : Int) ≤ ((2 ^ v : Nat) : Int) := Int.natCast_nonneg _
  omega
theorem lk_stepT {g : List Int} {w o x : Int} {k : Nat} (h : x = lkTo g w o k) (c : hasB o (k : Int) = true) : ior x (iandNot (g.getD k 0) w) = lkTo g w o (k + 1) := by rw [lkTo_succ, if_pos c, ← h]
theorem lk_stepF {g : List Int} {w o x : Int} {k : Nat} (h : x = lkTo g w o k) (c : hasB o (k : Int) = false) : x = lkTo g w o (k + 1) := by rw [lkTo_succ, if_neg (by rw [c]; simp), ← h]
theorem lk_round {n : Nat} {g : List Int} {p : Nat → Nat → Prop} {w o x R : Int} {f k : Nat} (hg : MaskG n g p) (hn : n ≤ 4) (hw : 0 ≤ w) (h : lkIter g w f o = R ∧ LkOk' n o f) (hx : x = lkTo g w o k) (hk : k = n) (hne : ¬ x = o) :
    f - 1 < f ∧ lkIter g w (f - 1) x = R ∧ LkOk' n x (f - 1) := by
  subst hk
  obtain ⟨h1, h2, h3, h4⟩ := h
  obtain ⟨h5, h6⟩ := lkTo_bound hn hg hw h2 h3
  have h2n : 2 ^ k ≤ 2 ^ 4 := Nat.pow_le_pow_right (by decide) hn
  have h16 : ((2 : Int) ^ k) ≤ 16 := by have : ((2 ^ k : Nat) : Int) ≤ ((2 ^ 4 : Nat) : Int) := Int.ofNat_le.2 h2n; simpa using this
  rw [← hx] at h5 h6
  cases f with
  | zero => omega
  | succ f =>
    rw [lkIter, hg.1, ← hx, if_neg hne] at h1
    refine ⟨by omega, h1, by omega, h6, by simp only [Nat.add_sub_cancel]; omega⟩
theorem lk_ret {n : Nat} {g : List Int} {p : Nat → Nat → Prop} {w o x R : Int} {f k : Nat} (hg : MaskG n g p) (h : lkIter g w f o = R ∧ LkOk' n o f) (hx : x = lkTo g w o k) (hk : k = n) (he : x = o) : o = R := by
  rw [← h.1, lkIter_fix]
  rw [hg.1, ← hk, ← hx, he]
/-! Sets of variables. -/
def ascAt (vars : List Int) (i : Nat) : Bool := !(decide ((0 : Int) < i) && decide (vars.getD i 0 ≤ vars.getD ((i : Int) - 1).toNat 0))
def ascB (vars : List Int) : Bool := (List.range vars.length).all (ascAt vars)
theorem asc_step {vars : List Int} {k : Nat} (h : (List.range k).all (ascAt vars) = true) (c : ¬ vars.getD k 0 ≤ vars.getD ((k : Int) - 1).toNat 0) : (List.range (k + 1)).all (ascAt vars) = true := by
  simp only [List.range_succ, List.all_append, h]; simp [ascAt] at *; exact .inr c
theorem asc_no {vars : List Int} {k : Nat} {b : Bool} (h1 : 1 ≤ k) (hk : k < vars.length) (c : vars.getD k 0 ≤ vars.getD ((k : Int) - 1).toNat 0) : false = (ascB vars && b) := by
  have : ascB vars = false := by
    rw [ascB, List.all_eq_false]; refine ⟨k, List.mem_range.2 hk, ?_⟩
    unfold ascAt
    rw [decide_eq_true c, decide_eq_true (by omega : (0 : Int) < (k : Int))]; simp
  rw [this]; rfl
theorem asc_yes {vars : List Int} {k : Nat} {b : Bool} (hk : vars.length ≤ k) (h : (List.range k).all (ascAt vars) = true) : b = (ascB vars && b) := by
  have : ascB vars = true := by
    rw [ascB, List.all_eq_true]; intro i hi
    rw [List.all_eq_true] at h
    exact h i (List.mem_range.2 (Nat.lt_of_lt_of_le (List.mem_range.1 hi) hk))
  rw [this]; rfl
theorem varSetS_eq (n : Nat) (vars : List Int) : varSetS n vars = (ascB vars && allInB vars 0 ((n : Int) - 1)) := by
  have e : allInB vars 0 ((n : Int) - 1) = (List.range vars.length).all (fun i => withinB (vars.getD i 0) 0 ((n : Int) - 1)) := by
    rw [Bool.eq_iff_iff]
    simp only [allInB, List.all_eq_true]
    constructor
    · intro h i hi; exact h _ (getD_mem (List.mem_range.1 hi))
    · intro h x hx
      obtain ⟨i, h1, h2⟩ := List.mem_iff_getElem.1 hx
      have := h i (List.mem_range.2 h1)
      rwa [List.getD_eq_getElem?_getD, List.getElem?_eq_getElem h1, Option.getD_some, h2] at this
  rw [e, ascB, varSetS, varSetTo, Bool.eq_iff_iff]
  simp only [Bool.and_eq_true, List.all_eq_true, varSetAt, ascAt]
  constructor
  · intro h; exact ⟨fun i hi => (h i hi).2, fun i hi => (h i hi).1⟩
  · rintro ⟨h1, h2⟩ i hi; exact ⟨h2 i hi, h1 i hi⟩
def varsInB (m : Mod) (vars : List Int) : Bool := validModB m && allInB vars 0 ((m.doms.length : Int) - 1)
def varSetI (m : Mod) (vars : List Int) : Bool := ascB vars && varsInB m vars
def withF (w x : Int) : Int := ior w (ishl 1 x)
def withoutI (vars : List Int) : Int := vars.foldl withF 0
theorem with_nat {n : Nat} (hn : n ≤ 4) : ∀ {vars : List Int} {w : Nat}, (∀ x ∈ vars, (0 : Int) ≤ x ∧ x < n) → w < 2 ^ n →
    ∃ x : Nat, vars.foldl withF (w : Int) = (x : Int) ∧ x < 2 ^ n ∧ ∀ b, x.testBit b = true ↔ w.testBit b = true ∨ (b : Int) ∈ vars
  | [], w, _, hw => ⟨w, rfl, hw, fun b => by simp⟩
  | v :: vars, w, h, hw => by
    have h2n : 2 ^ n ≤ 2 ^ 4 := Nat.pow_le_pow_right (by decide) hn
    have hv := h v (.head _)
    obtain ⟨v, rfl⟩ := Int.eq_ofNat_of_zero_le hv.1
    have h1 : 2 ^ v < 2 ^ n := Nat.pow_lt_pow_right (by decide) (by omega)
    obtain ⟨x, h3, h4, h5⟩ := with_nat hn (vars := vars) (w := w ||| 2 ^ v) (fun x hx => h x (.tail _ hx)) (Nat.or_lt_two_pow hw h1)
    refine ⟨x, ?_, h4, fun b => ?_⟩
    · rw [List.foldl_cons, withF, ishl_one (by omega), ior_nat (by omega) (by omega)]; exact h3
    · rw [h5, Nat.testBit_or, Bool.or_eq_true, Nat.testBit_two_pow, decide_eq_true_eq, List.mem_cons]
      constructor
      · rintro ((h | h) | h)
        · exact .inl h
        · exact .inr (.inl (by omega))
        · exact .inr (.inr h)
      · rintro (h | h | h)
        · exact .inl (.inl h)
        · exact .inl (.inr (by omega))
        · exact .inr h
theorem withoutI_nat {n : Nat} (hn : n ≤ 4) {vars : List Int} (h : ∀ x ∈ vars, (0 : Int) ≤ x ∧ x < n) : ∃ x : Nat, withoutI vars = (x : Int) ∧ ∀ b, x.testBit b = true ↔ (b : Int) ∈ vars := by
  obtain ⟨x, h1, _, h3⟩ := with_nat hn (w := 0) h (Nat.two_pow_pos n)
  exact ⟨x, h1, fun b => by rw [h3]; simp⟩
/-! Valid models. -/
theorem allInB_iff {xs : List Int} {lo hi : Int} : allInB xs lo hi = true ↔ ∀ x ∈ xs, lo ≤ x ∧ x ≤ hi := by simp [allInB, List.all_eq_true, withinB]
theorem valid_n {m : Mod} (h : validModB m = true) : 1 ≤ m.doms.length ∧ m.doms.length ≤ 4 := by
  simp only [validModB, domainsOkB, Bool.and_eq_true, withinB_iff] at h; omega
theorem valid_in {m : Mod} (h : validModB m = true) : InN m.cons m.doms.length := fun c hc a ha => by
  simp only [validModB, Bool.and_eq_true, List.all_eq_true] at h
  have := h.2 c hc
  simp only [validConB, Bool.and_eq_true] at this
  have := allInB_iff.1 this.1.1.2 a ha
  omega
/-! Separators. -/
def sepCI (m : Mod) (vars : List Int) (u v : Int) : Bool := ((!(varSetI m vars) || !(varsInB m [u, v])) || vars.contains u) || vars.contains v
def sepI (m : Mod) (vars : List Int) (u v : Int) : Bool := if sepCI m vars u v = true then false else !(hasB (linkedI m u (withoutI vars)) v)
def sepCS (m : Mod) (vars : List Int) (u v : Int) : Bool :=
  ((((!(validModB m) || !(varSetS m.doms.length vars)) || !(withinB u 0 ((m.doms.length : Int) - 1))) || !(withinB v 0 ((m.doms.length : Int) - 1))) || vars.contains u) || vars.contains v
def sepS (m : Mod) (vars : List Int) (u v : Int) : Bool := if sepCS m vars u v = true then false else !((reachS m u vars).contains v)
theorem sepC_eq (m : Mod) (vars : List Int) (u v : Int) : sepCI m vars u v = sepCS m vars u v := by
  simp only [sepCI, sepCS, varSetI, varsInB, varSetS_eq, allInB, List.all_cons, List.all_nil, Bool.and_true]
  cases validModB m <;> cases ascB vars <;> cases (vars.all fun n => withinB n 0 ((m.doms.length : Int) - 1)) <;> cases withinB u 0 ((m.doms.length : Int) - 1) <;> cases withinB v 0 ((m.doms.length : Int) - 1) <;> simp
structure SepOk (m : Mod) (vars : List Int) (u v : Int) : Prop where
  n1 : 1 ≤ m.doms.length
  n : m.doms.length ≤ 4
  i : InN m.cons m.doms.length
  vs : ∀ x ∈ vars, (0 : Int) ≤ x ∧ x < m.doms.length
  u : 0 ≤ u ∧ u < m.doms.length
  v : 0 ≤ v ∧ v < m.doms.length
theorem sep_ok {m : Mod} {vars : List Int} {u v : Int} (h : sepCS m vars u v = false) : SepOk m vars u v := by
  simp only [sepCS, Bool.or_eq_false_iff, Bool.not_eq_false', varSetS_eq, Bool.and_eq_true, withinB_iff, allInB_iff] at h
  obtain ⟨⟨⟨⟨⟨h1, _, h2⟩, h3⟩, h4⟩, _⟩, _⟩ := h
  have hn := valid_n h1
  exact ⟨hn.1, hn.2, valid_in h1, fun x hx => by have := h2 x hx; omega, by omega, by omega⟩
theorem sep_okI {m : Mod} {vars : List Int} {u v : Int} (h : sepCI m vars u v = false) : SepOk m vars u v := sep_ok (by rw [← sepC_eq]; exact h)
theorem SepOk.w {m : Mod} {vars : List Int} {u v : Int} (h : SepOk m vars u v) : 0 ≤ withoutI vars := by
  obtain ⟨x, h1, _⟩ := withoutI_nat h.n h.vs; rw [h1]; exact Int.natCast_nonneg _
theorem sep_eq (m : Mod) (vars : List Int) (u v : Int) : sepI m vars u v = sepS m vars u v := by
  simp only [sepI, sepS, sepC_eq]
  cases hc : sepCS m vars u v with
  | true => rfl
  | false =>
    simp only [Bool.false_eq_true, if_false]
    congr 1
    have h := sep_ok hc
    obtain ⟨u, rfl⟩ := Int.eq_ofNat_of_zero_le h.u.1
    obtain ⟨v, rfl⟩ := Int.eq_ofNat_of_zero_le h.v.1
    obtain ⟨w, hw, hwb⟩ := withoutI_nat h.n h.vs
    have hu := h.u.2
    have hv := h.v.2
    have hn := h.n
    obtain ⟨x, h1, h2, h3⟩ := linkedI_conn h.n h.i (w := w) (v := u) (by omega)
    have h2n : 2 ^ m.doms.length ≤ 2 ^ 4 := Nat.pow_le_pow_right (by decide) h.n
    rw [hw, h1, hasB_nat (by omega) (by omega), Bool.eq_iff_iff, h3, List.contains_iff_mem, reachS_conn (by omega)]
    exact ⟨Conn.congr (fun i _ => hwb i), Conn.congr (fun i _ => (hwb i).symm)⟩
theorem small_of {m : Mod} (h : szB 1048576 (modN m : Nat) = 1048576 - (modN m : Nat) ∧ (0 : Int) ≤ 1048576 - (modN m : Nat)) : SmallM m := by simp only [SmallM]; omega
end Go.Proofs.Ytcdemjjgmnbkfaa
