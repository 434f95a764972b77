/- Walks of functions of the program: each returns what the plain function gives. Conditions: those that each statement names. -/
import Derived.Test.YtigngogjgohfgaaGreatWis
namespace Go.Proofs.YtigngogjgohfgaaGreat
open Go
set_option linter.unusedSimpArgs false
set_option linter.unusedVariables false
theorem rank1_ok {Hy : Hp} {vy : Value} {Hx : Hp} {vx : Value} {Hpx : Hp} {ptrpx : Value} (y : List Int) (x : List Int) (hy : Ints Hy vy y) (hx : Ints Hx vx x) (apx : At Hpx ptrpx [vx]) : SpecP Tryz.prog 64 [vy, ptrpx] [Hy, Hx, Hpx] (.bool (decide (x = y))) := by
 refine spec_of Tryz.func64 rfl rfl rfl (fun B => ?_)
 refine kc_seq (kc_region ?_)
 refine kl_as rfl ?_
 refine kl_nil (kq_code (kc_seq (kc_region ?_)))
 refine kl_ld rfl (by assumption) ?_
 refine kl_mv rfl ?_
 refine kl_callP rfl rfl (equal_ok x y (by assumption) (by assumption)) ?_
 refine kl_as rfl ?_
 refine kl_nil (kq_code ?_)
 refine kc_ret ?_
 refine kq_retP rfl rfl (congrArg Value.bool ?_)
 rfl
theorem rankI_ok {Hmd : Hp} {vmd : Value} {Hmc : Hp} {vmc : Value} {Hx : Hp} {vx : Value} (m : Mod) (x : List Int) (hmd : Ints Hmd vmd m.doms) (hmc : Cons Hmc vmc m.cons) (hx : Ints Hx vx x) : SpecP Tryz.prog 24 [.agg #[vmd, vmc], vx] [Hmd, Hmc, Hx] (.int .i64 (rankI m x)) := by
 refine spec_of Tryz.func24 rfl rfl rfl (fun B => ?_)
 refine kc_seq (kc_region ?_)
 refine kl_box rfl rfl (fun p1 H2 f3 a4 => ?_)
 refine kl_box rfl (Sl.cells (by assumption)) (fun p5 H6 f7 a8 => ?_)
 refine kl_as rfl ?_
 refine kl_nil (kq_code ?_)
 refine kc_seq ?_
 refine kc_seq (kc_region ?_)
 refine kl_ldS rfl (by assumption) rfl ?_
 refine kl_ld rfl (by assumption) ?_
 refine kl_callP rfl rfl (isSolI_ok m x (by assumption) (by assumption) (by assumption)) ?_
 refine kl_not rfl ?_
 refine kl_nil (kq_code ?_)
 refine kc_cond rfl (fun c9 => ?_) (fun c9 => ?_)
 ·skip
  have c9r := c9
  try simp only [Bool.not_eq_true', Bool.not_eq_false', Bool.not_true, Bool.not_false, decide_eq_true_eq, decide_eq_false_iff_not, Bool.and_eq_true, Bool.or_eq_false_iff] at c9
  refine kc_seq (kc_region ?_)
  refine kl_as rfl ?_
  refine kl_nil (kq_code ?_)
  refine kc_ret ?_
  refine kq_retP rfl rfl (congrArg (Value.int .i64) ?_)
  exact rankI_no (by assumption)
 ·skip
  have c9r := c9
  try simp only [Bool.not_eq_true', Bool.not_eq_false', Bool.not_true, Bool.not_false, decide_eq_true_eq, decide_eq_false_iff_not, Bool.and_eq_true, Bool.or_eq_false_iff] at c9
  have hM := isSolT_ok (by simpa using c9r : isSolT m x = true)
  refine kc_skipQ ?_
  refine kq_code ?_
  refine kc_seq (kc_region ?_)
  refine kl_ldS rfl (by assumption) rfl ?_
  refine kl_call rfl rfl (solutions_ok m hM (by assumption) (by assumption)) (fun v10 H11 f12 h13 => ?_)
  refine kl_mkf rfl ?_
  refine kl_callP rfl rfl (ixf_row_ok (sols m) (fun x13 => decide (x = x13)) (by assumption) (fun _ ux13 x13 _ hux13 => rank1_ok x13 x hux13 (by assumption) (by assumption))) ?_
  refine kl_as rfl ?_
  refine kl_nil (kq_code ?_)
  refine kc_ret ?_
  refine kq_retP rfl rfl (congrArg (Value.int .i64) ?_)
  exact rankI_yes (by assumption)
theorem rankS_ok {Hmd : Hp} {vmd : Value} {Hmc : Hp} {vmc : Value} {Hx : Hp} {vx : Value} (m : Mod) (x : List Int) (hmd : Ints Hmd vmd m.doms) (hmc : Cons Hmc vmc m.cons) (hx : Ints Hx vx x) : SpecP Tryz.prog 25 [.agg #[vmd, vmc], vx] [Hmd, Hmc, Hx] (.int .i64 (rankS m x)) := by
 refine spec_of Tryz.func25 rfl rfl rfl (fun B => ?_)
 refine kc_seq (kc_region ?_)
 refine kl_box rfl rfl (fun p1 H2 f3 a4 => ?_)
 refine kl_as rfl ?_
 refine kl_nil (kq_code ?_)
 refine kc_seq ?_
 refine kc_seq (kc_region ?_)
 refine kl_ldS rfl (by assumption) rfl ?_
 refine kl_mv rfl ?_
 refine kl_callP rfl rfl (sisSolI_ok m x (by assumption) (by assumption) (by assumption)) ?_
 refine kl_not rfl ?_
 refine kl_nil (kq_code ?_)
 refine kc_cond rfl (fun c5 => ?_) (fun c5 => ?_)
 ·skip
  have c5r := c5
  try simp only [Bool.not_eq_true', Bool.not_eq_false', Bool.not_true, Bool.not_false, decide_eq_true_eq, decide_eq_false_iff_not, Bool.and_eq_true, Bool.or_eq_false_iff] at c5
  refine kc_seq (kc_region ?_)
  refine kl_as rfl ?_
  refine kl_nil (kq_code ?_)
  refine kc_ret ?_
  refine kq_retP rfl rfl (congrArg (Value.int .i64) ?_)
  exact rankS_no (by assumption)
 ·skip
  have c5r := c5
  try simp only [Bool.not_eq_true', Bool.not_eq_false', Bool.not_true, Bool.not_false, decide_eq_true_eq, decide_eq_false_iff_not, Bool.and_eq_true, Bool.or_eq_false_iff] at c5
  have hM := isSolU_ok (by simpa using c5r : isSolU m x = true)
  refine kc_skipQ ?_
  refine kq_code ?_
  refine kc_seq (kc_region ?_)
  refine kl_ldS rfl (by assumption) rfl ?_
  refine kl_call rfl rfl (solve_ok m hM (by assumption) (by assumption)) (fun v6 H7 f8 h9 => ?_)
  obtain ⟨z12, z15, u13, rfl, h14, h11⟩ := h9
  subst h11
  refine kl_mv rfl ?_
  refine kl_xt rfl rfl ?_
  refine kl_xt rfl rfl ?_
  refine kl_as rfl ?_
  refine kl_as rfl ?_
  refine kl_nil (kq_code ?_)
  refine kc_seq ?_
  refine kc_seq (kc_region ?_)
  refine kl_as rfl ?_
  refine kl_nil (kq_code ?_)
  refine kc_block ?_
  refine kc_loop0 (A := Nat) (fun zz => (zz ≤ (sols m).length) ∧ (((sols m).take zz).any (fun y => decide (y = x)) = false)) (fun zz => (sols m).length - zz) (fun zz => [(7, .int .i64 (zz : Int))]) (0) (pc 1 rfl (pc 5 rfl pn)) (pc 7 rfl pn) ⟨Nat.zero_le _, by simp⟩ ?_
  rintro k hJ18
  obtain ⟨hk16, hi17⟩ : (k ≤ (sols m).length) ∧ (((sols m).take k).any (fun y => decide (y = x)) = false) := hJ18
  change KC _ _ (_) _ _ ([(7, .int .i64 (k : Int))] ++ _)
  refine kc_seq ?_
  refine kc_seq (kc_region ?_)
  refine kl_mv rfl ?_
  refine kl_mv rfl ?_
  refine kl_len rfl (by assumption) (fun l19 => ?_)
  refine kl_lss rfl rfl ?_
  refine kl_nil (kq_code ?_)
  refine kc_if rfl (fun c20 => ?_) (fun c20 => ?_)
  ·skip
   refine kc_skipQ ?_
   refine kq_code ?_
   refine kc_seq ?_
   refine kc_block ?_
   refine kc_seq (kc_region ?_)
   refine kl_mv rfl ?_
   refine kl_mv rfl ?_
   refine kl_inS rfl rfl (by assumption) (by omega) (fun p21 u23 h24 a22 => ?_)
   refine kl_ld rfl (by assumption) ?_
   refine kl_mv rfl ?_
   refine kl_callP rfl rfl (sequal_ok ((sols m).getD k []) x (by assumption) (by assumption)) ?_
   refine kl_nil (kq_code ?_)
   refine kc_cond rfl (fun c25 => ?_) (fun c25 => ?_)
   ·skip
    have c25r := c25
    try simp only [Bool.not_eq_true', Bool.not_eq_false', Bool.not_true, Bool.not_false, decide_eq_true_eq, decide_eq_false_iff_not, Bool.and_eq_true, Bool.or_eq_false_iff] at c25
    refine kc_seq (kc_region ?_)
    refine kl_mv rfl ?_
    refine kl_as rfl ?_
    refine kl_nil (kq_code ?_)
    refine kc_ret ?_
    refine kq_retP rfl rfl (congrArg (Value.int .i64) ?_)
    (rw [← rankS_yes (by assumption)]; exact indexBy_hit (d := []) (by omega) hi17 (by simpa using by assumption))
   ·skip
    have c25r := c25
    try simp only [Bool.not_eq_true', Bool.not_eq_false', Bool.not_true, Bool.not_false, decide_eq_true_eq, decide_eq_false_iff_not, Bool.and_eq_true, Bool.or_eq_false_iff] at c25
    refine kc_skipQ ?_
    refine kq_code ?_
    refine kc_region ?_
    refine kl_mv rfl ?_
    refine kl_inc rfl rfl (by omega) ?_
    refine kl_as rfl ?_
    refine kl_nil ?_
    refine kq_round0 ((k + 1)) (by omega) (⟨by omega, any_take_step (d := []) (by omega) hi17 (by simpa using by assumption)⟩) (pc 7 rfl pn) (pc 1 rfl (pc 5 rfl pn)) (List.Sublist.refl _)
  ·skip
   refine kc_exit ?_
   refine kq_code ?_
   refine kc_seq (kc_region ?_)
   refine kl_as rfl ?_
   refine kl_nil (kq_code ?_)
   refine kc_ret ?_
   refine kq_retP rfl rfl (congrArg (Value.int .i64) ?_)
   (rw [← rankS_yes (by assumption)]; exact indexBy_none (by omega) hi17)
theorem solAtI_ok {Hmd : Hp} {vmd : Value} {Hmc : Hp} {vmc : Value} (m : Mod) (r : Int) (hmd : Ints Hmd vmd m.doms) (hmc : Cons Hmc vmc m.cons) : Spec Tryz.prog 27 [.agg #[vmd, vmc], .int .i64 r] [Hmd, Hmc] (fun Hq vq => ∃ uq0 : Value, vq = .tuple #[uq0, .bool ((solAt m r).2)] ∧ Ints Hq uq0 ((solAt m r).1)) := by
 refine spec_of Tryz.func27 rfl rfl rfl (fun B => ?_)
 refine kc_seq (kc_region ?_)
 refine kl_box rfl rfl (fun p1 H2 f3 a4 => ?_)
 refine kl_as rfl ?_
 refine kl_as rfl ?_
 refine kl_nil (kq_code ?_)
 refine kc_seq ?_
 refine kc_seq (kc_region ?_)
 refine kl_ldS rfl (by assumption) rfl ?_
 refine kl_callP rfl rfl (validMod_ok m (by assumption) (by assumption)) ?_
 refine kl_not rfl ?_
 refine kl_nil (kq_code ?_)
 refine kc_cond rfl (fun c5 => ?_) (fun c5 => ?_)
 ·skip
  have c5r := c5
  try simp only [Bool.not_eq_true', Bool.not_eq_false', Bool.not_true, Bool.not_false, decide_eq_true_eq, decide_eq_false_iff_not, Bool.and_eq_true, Bool.or_eq_false_iff] at c5
  refine kc_seq (kc_region ?_)
  refine kl_as rfl ?_
  refine kl_as rfl ?_
  refine kl_nil (kq_code ?_)
  refine kc_ret ?_
  refine kq_ret2 rfl rfl rfl noHp (fr_no _) ⟨_, tup2 rfl (congrArg Value.bool (by rw [solAt_0 (by assumption)])), ?_⟩
  exact (by have e9 : (solAt m r).1 = [] := (by rw [solAt_0 (by assumption)]); rw [e9]; exact Sl.nil)
 ·skip
  have c5r := c5
  try simp only [Bool.not_eq_true', Bool.not_eq_false', Bool.not_true, Bool.not_false, decide_eq_true_eq, decide_eq_false_iff_not, Bool.and_eq_true, Bool.or_eq_false_iff] at c5
  have hM : MOk m := ⟨by simpa using c5r⟩
  have hfw := sols_few hM
  refine kc_skipQ ?_
  refine kq_code ?_
  refine kc_seq (kc_region ?_)
  refine kl_ldS rfl (by assumption) rfl ?_
  refine kl_call rfl rfl (solutions_ok m hM (by assumption) (by assumption)) (fun v6 H7 f8 h9 => ?_)
  refine kl_as rfl ?_
  refine kl_nil (kq_code ?_)
  refine kc_seq ?_
  refine kc_seq (kc_region ?_)
  refine kl_mv rfl ?_
  refine kl_mv rfl ?_
  refine kl_len rfl (by assumption) (fun l10 => ?_)
  refine kl_sub rfl rfl (by omega) ?_
  refine kl_callP rfl rfl (within_ok r (0 : Int) (((sols m).length : Int) - (1 : Int))) ?_
  refine kl_not rfl ?_
  refine kl_nil (kq_code ?_)
  refine kc_cond rfl (fun c11 => ?_) (fun c11 => ?_)
  ·skip
   have c11r := c11
   try simp only [Bool.not_eq_true', Bool.not_eq_false', Bool.not_true, Bool.not_false, decide_eq_true_eq, decide_eq_false_iff_not, Bool.and_eq_true, Bool.or_eq_false_iff] at c11
   refine kc_seq (kc_region ?_)
   refine kl_as rfl ?_
   refine kl_as rfl ?_
   refine kl_nil (kq_code ?_)
   refine kc_ret ?_
   refine kq_ret2 rfl rfl rfl noHp (fr_no _) ⟨_, tup2 rfl (congrArg Value.bool (by rw [solAt_1 (by assumption)])), ?_⟩
   exact (by have e9 : (solAt m r).1 = [] := (by rw [solAt_1 (by assumption)]); rw [e9]; exact Sl.nil)
  ·skip
   have c11r := c11
   try simp only [Bool.not_eq_true', Bool.not_eq_false', Bool.not_true, Bool.not_false, decide_eq_true_eq, decide_eq_false_iff_not, Bool.and_eq_true, Bool.or_eq_false_iff] at c11
   have hwi := solAt_in c11r
   refine kc_skipQ ?_
   refine kq_code ?_
   refine kc_seq (kc_region ?_)
   refine kl_mv rfl ?_
   refine kl_mv rfl ?_
   refine kl_ixS rfl rfl (by assumption) (by omega) (by omega) (fun p12 u14 h15 a13 => ?_)
   refine kl_ld rfl (by assumption) ?_
   refine kl_as rfl ?_
   refine kl_as rfl ?_
   refine kl_nil (kq_code ?_)
   refine kc_ret ?_
   refine kq_ret2 rfl rfl rfl H7 f8 ⟨_, tup2 rfl (congrArg Value.bool (by rw [solAt_2 (by assumption) (by assumption)])), ?_⟩
   exact (by have e9 : (solAt m r).1 = ((sols m).getD r.toNat []) := (by rw [solAt_2 (by assumption) (by assumption)]); rw [e9]; assumption)
end Go.Proofs.YtigngogjgohfgaaGreat
