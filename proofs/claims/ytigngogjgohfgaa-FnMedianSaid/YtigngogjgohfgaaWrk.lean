/- Walks of functions of the program: each returns what the plain function gives. Conditions: those that each statement names. -/
import Derived.Test.YtigngogjgohfgaaWis
namespace Go.Proofs.Ytigngogjgohfgaa
open Go
set_option linter.unusedSimpArgs false
set_option linter.unusedVariables false
theorem rank1_ok {Hy : Hp} {vy : Value} {Hx : Hp} {vx : Value} {Hpx : Hp} {ptrpx : Value} (y : List Int) (x : List Int) (hy : Ints Hy vy y) (hx : Ints Hx vx x) (apx : At Hpx ptrpx [vx]) : SpecP Try.prog 61 [vy, ptrpx] [Hy, Hx, Hpx] (.bool (decide (x = y))) := by
  refine spec_of Try.func61 rfl rfl rfl (fun B => ?_)
  refine kc_seq ?_
  refine kc_region ?_
  refine kl_as rfl ?_
  refine kl_nil ?_
  refine kq_code ?_
  refine kc_seq ?_
  refine kc_region ?_
  refine kl_ld rfl (by assumption) ?_
  refine kl_mv rfl ?_
  refine kl_callP rfl rfl (equal_ok x y (by assumption) (by assumption)) ?_
  refine kl_as rfl ?_
  refine kl_nil ?_
  refine kq_code ?_
  refine kc_ret ?_
  refine kq_retP rfl rfl (congrArg Value.bool ?_)
  rfl
theorem rankI_ok {Hmd : Hp} {vmd : Value} {Hmc : Hp} {vmc : Value} {Hx : Hp} {vx : Value} (m : Mod) (x : List Int) (hmd : Ints Hmd vmd m.doms) (hmc : Cons Hmc vmc m.cons) (hx : Ints Hx vx x) : SpecP Try.prog 17 [.agg #[vmd, vmc], vx] [Hmd, Hmc, Hx] (.int .i64 (rankI m x)) := by
  refine spec_of Try.func17 rfl rfl rfl (fun B => ?_)
  refine kc_seq ?_
  refine kc_region ?_
  refine kl_box rfl rfl (fun p1 H2 f3 a4 => ?_)
  refine kl_box rfl (Sl.cells (by assumption)) (fun p5 H6 f7 a8 => ?_)
  refine kl_as rfl ?_
  refine kl_nil ?_
  refine kq_code ?_
  refine kc_seq ?_
  refine kc_seq ?_
  refine kc_region ?_
  refine kl_ldS rfl (by assumption) rfl ?_
  refine kl_ld rfl (by assumption) ?_
  refine kl_callP rfl rfl (isSolI_ok m x (by assumption) (by assumption) (by assumption)) ?_
  refine kl_not rfl ?_
  refine kl_nil ?_
  refine kq_code ?_
  refine kc_cond rfl (fun c9 => ?_) (fun c9 => ?_)
  · skip
    have c9r := c9
    try simp only [Bool.not_eq_true', Bool.not_eq_false', Bool.not_true, Bool.not_false, decide_eq_true_eq, decide_eq_false_iff_not, Bool.and_eq_true, Bool.or_eq_false_iff] at c9
    refine kc_seq ?_
    refine kc_region ?_
    refine kl_as rfl ?_
    refine kl_nil ?_
    refine kq_code ?_
    refine kc_ret ?_
    refine kq_retP rfl rfl (congrArg (Value.int .i64) ?_)
    exact rankI_no (by assumption)
  · skip
    have c9r := c9
    try simp only [Bool.not_eq_true', Bool.not_eq_false', Bool.not_true, Bool.not_false, decide_eq_true_eq, decide_eq_false_iff_not, Bool.and_eq_true, Bool.or_eq_false_iff] at c9
    have hM := isSolT_ok (by simpa using c9r : isSolT m x = true)
    refine kc_skipQ ?_
    refine kq_code ?_
    refine kc_seq ?_
    refine kc_region ?_
    refine kl_ldS rfl (by assumption) rfl ?_
    refine kl_call rfl rfl (solutions_ok m hM (by assumption) (by assumption)) (fun v10 H11 f12 h13 => ?_)
    refine kl_mkf rfl ?_
    refine kl_callP rfl rfl (ixf_row_ok (sols m) (fun x13 => decide (x = x13)) (by assumption) (fun _ ux13 x13 _ hux13 => rank1_ok x13 x hux13 (by assumption) (by assumption))) ?_
    refine kl_as rfl ?_
    refine kl_nil ?_
    refine kq_code ?_
    refine kc_ret ?_
    refine kq_retP rfl rfl (congrArg (Value.int .i64) ?_)
    exact rankI_yes (by assumption)
theorem solAtI_ok {Hmd : Hp} {vmd : Value} {Hmc : Hp} {vmc : Value} (m : Mod) (r : Int) (hmd : Ints Hmd vmd m.doms) (hmc : Cons Hmc vmc m.cons) : Spec Try.prog 12 [.agg #[vmd, vmc], .int .i64 r] [Hmd, Hmc] (fun Hq vq => ∃ uq0 : Value, vq = .tuple #[uq0, .bool ((solAt m r).2)] ∧ Ints Hq uq0 ((solAt m r).1)) := by
  refine spec_of Try.func12 rfl rfl rfl (fun B => ?_)
  refine kc_seq ?_
  refine kc_region ?_
  refine kl_box rfl rfl (fun p1 H2 f3 a4 => ?_)
  refine kl_as rfl ?_
  refine kl_as rfl ?_
  refine kl_nil ?_
  refine kq_code ?_
  refine kc_seq ?_
  refine kc_seq ?_
  refine kc_region ?_
  refine kl_ldS rfl (by assumption) rfl ?_
  refine kl_callP rfl rfl (validMod_ok m (by assumption) (by assumption)) ?_
  refine kl_not rfl ?_
  refine kl_nil ?_
  refine kq_code ?_
  refine kc_cond rfl (fun c5 => ?_) (fun c5 => ?_)
  · skip
    have c5r := c5
    try simp only [Bool.not_eq_true', Bool.not_eq_false', Bool.not_true, Bool.not_false, decide_eq_true_eq, decide_eq_false_iff_not, Bool.and_eq_true, Bool.or_eq_false_iff] at c5
    refine kc_seq ?_
    refine kc_region ?_
    refine kl_as rfl ?_
    refine kl_as rfl ?_
    refine kl_nil ?_
    refine kq_code ?_
    refine kc_ret ?_
    refine kq_ret2 rfl rfl rfl noHp (fr_no _) ⟨_, tup2 rfl (congrArg Value.bool (by rw [solAt_0 (by assumption)])), ?_⟩
    exact (by have e9 : (solAt m r).1 = [] := (by rw [solAt_0 (by assumption)]); rw [e9]; exact Sl.nil)
  · skip
    have c5r := c5
    try simp only [Bool.not_eq_true', Bool.not_eq_false', Bool.not_true, Bool.not_false, decide_eq_true_eq, decide_eq_false_iff_not, Bool.and_eq_true, Bool.or_eq_false_iff] at c5
    have hM : MOk m := ⟨by simpa using c5r⟩
    have hfw := sols_few hM
    refine kc_skipQ ?_
    refine kq_code ?_
    refine kc_seq ?_
    refine kc_region ?_
    refine kl_ldS rfl (by assumption) rfl ?_
    refine kl_call rfl rfl (solutions_ok m hM (by assumption) (by assumption)) (fun v6 H7 f8 h9 => ?_)
    refine kl_as rfl ?_
    refine kl_nil ?_
    refine kq_code ?_
    refine kc_seq ?_
    refine kc_seq ?_
    refine kc_region ?_
    refine kl_mv rfl ?_
    refine kl_mv rfl ?_
    refine kl_len rfl (by assumption) (fun l10 => ?_)
    refine kl_sub rfl rfl (by omega) ?_
    refine kl_callP rfl rfl (within_ok r (0 : Int) (((sols m).length : Int) - (1 : Int))) ?_
    refine kl_not rfl ?_
    refine kl_nil ?_
    refine kq_code ?_
    refine kc_cond rfl (fun c11 => ?_) (fun c11 => ?_)
    · skip
      have c11r := c11
      try simp only [Bool.not_eq_true', Bool.not_eq_false', Bool.not_true, Bool.not_false, decide_eq_true_eq, decide_eq_false_iff_not, Bool.and_eq_true, Bool.or_eq_false_iff] at c11
      refine kc_seq ?_
      refine kc_region ?_
      refine kl_as rfl ?_
      refine kl_as rfl ?_
      refine kl_nil ?_
      refine kq_code ?_
      refine kc_ret ?_
      refine kq_ret2 rfl rfl rfl noHp (fr_no _) ⟨_, tup2 rfl (congrArg Value.bool (by rw [solAt_1 (by assumption)])), ?_⟩
      exact (by have e9 : (solAt m r).1 = [] := (by rw [solAt_1 (by assumption)]); rw [e9]; exact Sl.nil)
    · skip
      have c11r := c11
      try simp only [Bool.not_eq_true', Bool.not_eq_false', Bool.not_true, Bool.not_false, decide_eq_true_eq, decide_eq_false_iff_not, Bool.and_eq_true, Bool.or_eq_false_iff] at c11
      have hwi := solAt_in c11r
      refine kc_skipQ ?_
      refine kq_code ?_
      refine kc_seq ?_
      refine kc_region ?_
      refine kl_mv rfl ?_
      refine kl_mv rfl ?_
      refine kl_ixS rfl rfl (by assumption) (by omega) (by omega) (fun p12 u14 h15 a13 => ?_)
      refine kl_ld rfl (by assumption) ?_
      refine kl_as rfl ?_
      refine kl_as rfl ?_
      refine kl_nil ?_
      refine kq_code ?_
      refine kc_ret ?_
      refine kq_ret2 rfl rfl rfl H7 f8 ⟨_, tup2 rfl (congrArg Value.bool (by rw [solAt_2 (by assumption) (by assumption)])), ?_⟩
      exact (by have e9 : (solAt m r).1 = ((sols m).getD r.toNat []) := (by rw [solAt_2 (by assumption) (by assumption)]); rw [e9]; assumption)
theorem solAtS_ok {Hmd : Hp} {vmd : Value} {Hmc : Hp} {vmc : Value} (m : Mod) (r : Int) (hmd : Ints Hmd vmd m.doms) (hmc : Cons Hmc vmc m.cons) : Spec Try.prog 13 [.agg #[vmd, vmc], .int .i64 r] [Hmd, Hmc] (fun Hq vq => ∃ uq0 : Value, vq = .tuple #[uq0, .bool ((solAt m r).2)] ∧ Ints Hq uq0 ((solAt m r).1)) := by
  refine spec_of Try.func13 rfl rfl rfl (fun B => ?_)
  refine kc_seq ?_
  refine kc_region ?_
  refine kl_box rfl rfl (fun p1 H2 f3 a4 => ?_)
  refine kl_as rfl ?_
  refine kl_as rfl ?_
  refine kl_nil ?_
  refine kq_code ?_
  refine kc_seq ?_
  refine kc_seq ?_
  refine kc_region ?_
  refine kl_ldS rfl (by assumption) rfl ?_
  refine kl_callP rfl rfl (svalidMod_ok m (by assumption) (by assumption)) ?_
  refine kl_not rfl ?_
  refine kl_nil ?_
  refine kq_code ?_
  refine kc_cond rfl (fun c5 => ?_) (fun c5 => ?_)
  · skip
    have c5r := c5
    try simp only [Bool.not_eq_true', Bool.not_eq_false', Bool.not_true, Bool.not_false, decide_eq_true_eq, decide_eq_false_iff_not, Bool.and_eq_true, Bool.or_eq_false_iff] at c5
    refine kc_seq ?_
    refine kc_region ?_
    refine kl_as rfl ?_
    refine kl_as rfl ?_
    refine kl_nil ?_
    refine kq_code ?_
    refine kc_ret ?_
    refine kq_ret2 rfl rfl rfl noHp (fr_no _) ⟨_, tup2 rfl (congrArg Value.bool (by rw [solAt_0 (by assumption)])), ?_⟩
    exact (by have e9 : (solAt m r).1 = [] := (by rw [solAt_0 (by assumption)]); rw [e9]; exact Sl.nil)
  · skip
    have c5r := c5
    try simp only [Bool.not_eq_true', Bool.not_eq_false', Bool.not_true, Bool.not_false, decide_eq_true_eq, decide_eq_false_iff_not, Bool.and_eq_true, Bool.or_eq_false_iff] at c5
    have hM : MOk m := ⟨by simpa using c5r⟩
    have hfw := sols_few hM
    refine kc_skipQ ?_
    refine kq_code ?_
    refine kc_seq ?_
    refine kc_region ?_
    refine kl_ldS rfl (by assumption) rfl ?_
    refine kl_call rfl rfl (solve_ok m hM (by assumption) (by assumption)) (fun v6 H7 f8 h9 => ?_)
    obtain ⟨z12, z15, u13, rfl, h14, h11⟩ := h9
    subst h11
    refine kl_mv rfl ?_
    refine kl_xt rfl rfl ?_
    refine kl_xt rfl rfl ?_
    refine kl_as rfl ?_
    refine kl_as rfl ?_
    refine kl_nil ?_
    refine kq_code ?_
    refine kc_seq ?_
    refine kc_seq ?_
    refine kc_region ?_
    refine kl_mv rfl ?_
    refine kl_mv rfl ?_
    refine kl_len rfl (by assumption) (fun l16 => ?_)
    refine kl_sub rfl rfl (by omega) ?_
    refine kl_callP rfl rfl (inRange_ok r (0 : Int) (((sols m).length : Int) - (1 : Int))) ?_
    refine kl_not rfl ?_
    refine kl_nil ?_
    refine kq_code ?_
    refine kc_cond rfl (fun c17 => ?_) (fun c17 => ?_)
    · skip
      have c17r := c17
      try simp only [Bool.not_eq_true', Bool.not_eq_false', Bool.not_true, Bool.not_false, decide_eq_true_eq, decide_eq_false_iff_not, Bool.and_eq_true, Bool.or_eq_false_iff] at c17
      refine kc_seq ?_
      refine kc_region ?_
      refine kl_as rfl ?_
      refine kl_as rfl ?_
      refine kl_nil ?_
      refine kq_code ?_
      refine kc_ret ?_
      refine kq_ret2 rfl rfl rfl noHp (fr_no _) ⟨_, tup2 rfl (congrArg Value.bool (by rw [solAt_1 (by assumption)])), ?_⟩
      exact (by have e9 : (solAt m r).1 = [] := (by rw [solAt_1 (by assumption)]); rw [e9]; exact Sl.nil)
    · skip
      have c17r := c17
      try simp only [Bool.not_eq_true', Bool.not_eq_false', Bool.not_true, Bool.not_false, decide_eq_true_eq, decide_eq_false_iff_not, Bool.and_eq_true, Bool.or_eq_false_iff] at c17
      have hwi := solAt_in c17r
      refine kc_skipQ ?_
      refine kq_code ?_
      refine kc_seq ?_
      refine kc_region ?_
      refine kl_mv rfl ?_
      refine kl_mv rfl ?_
      refine kl_ixS rfl rfl (by assumption) (by omega) (by omega) (fun p18 u20 h21 a19 => ?_)
      refine kl_ld rfl (by assumption) ?_
      refine kl_as rfl ?_
      refine kl_as rfl ?_
      refine kl_nil ?_
      refine kq_code ?_
      refine kc_ret ?_
      refine kq_ret2 rfl rfl rfl H7 f8 ⟨_, tup2 rfl (congrArg Value.bool (by rw [solAt_2 (by assumption) (by assumption)])), ?_⟩
      exact (by have e9 : (solAt m r).1 = ((sols m).getD r.toNat []) := (by rw [solAt_2 (by assumption) (by assumption)]); rw [e9]; assumption)
end Go.Proofs.Ytigngogjgohfgaa
