/- Walks of functions of the program: each returns what the plain function gives. Conditions: those that each statement names. -/
import Derived.Test.YtbbphbihgikmdaaGreatWfix
import Derived.Test.YtbbphbihgikmdaaGreatPureZ
namespace Go.Proofs.YtbbphbihgikmdaaGreat
open Go
set_option linter.unusedSimpArgs false
set_option linter.unusedVariables false
theorem isNaN_ok (x : Int) : SpecP Tryz.prog 166 [.int .i64 x] [] (.bool false) := by
 refine spec_of Tryz.func166 rfl rfl rfl (fun B => ?_)
 refine kc_seq (kc_region ?_)
 refine kl_as rfl ?_
 refine kl_nil (kq_code (kc_seq (kc_region ?_)))
 refine kl_mv rfl ?_
 refine kl_mv rfl ?_
 refine kl_neq rfl rfl ?_
 refine kl_as rfl ?_
 refine kl_nil (kq_code ?_)
 refine kc_ret ?_
 refine kq_retP rfl rfl (congrArg Value.bool ?_)
 simp
theorem cmpInt_ok (a : Int) (b : Int) : SpecP Tryz.prog 151 [.int .i64 a, .int .i64 b] [] (.int .i64 (cmpI a b)) := by
 refine spec_of Tryz.func151 rfl rfl rfl (fun B => ?_)
 refine kc_seq (kc_region ?_)
 refine kl_as rfl ?_
 refine kl_nil (kq_code (kc_seq (kc_region ?_)))
 refine kl_mv rfl ?_
 refine kl_callP rfl rfl (isNaN_ok a) ?_
 refine kl_as rfl ?_
 refine kl_nil (kq_code (kc_seq (kc_region ?_)))
 refine kl_mv rfl ?_
 refine kl_callP rfl rfl (isNaN_ok b) ?_
 refine kl_as rfl ?_
 refine kl_nil (kq_code ?_)
 refine kc_seq ?_
 refine kc_seq (kc_region ?_)
 refine kl_mv rfl ?_
 refine kl_nil (kq_code ?_)
 refine kc_cond rfl (fun c1 => ?_) (fun c1 => ?_)
 ·skip
  have c1r := c1
  try simp only [Bool.not_eq_true', Bool.not_eq_false', Bool.not_true, Bool.not_false, decide_eq_true_eq, decide_eq_false_iff_not, Bool.and_eq_true, Bool.or_eq_false_iff] at c1
  exact absurd c1r (by decide)
 ·skip
  have c1r := c1
  try simp only [Bool.not_eq_true', Bool.not_eq_false', Bool.not_true, Bool.not_false, decide_eq_true_eq, decide_eq_false_iff_not, Bool.and_eq_true, Bool.or_eq_false_iff] at c1
  refine kc_skipQ ?_
  refine kq_code ?_
  refine kc_seq ?_
  refine kc_seq (kc_region ?_)
  refine kl_mv rfl ?_
  refine kl_nil (kq_code ?_)
  refine kc_cond rfl (fun c2 => ?_) (fun c2 => ?_)
  ·skip
   have c2r := c2
   try simp only [Bool.not_eq_true', Bool.not_eq_false', Bool.not_true, Bool.not_false, decide_eq_true_eq, decide_eq_false_iff_not, Bool.and_eq_true, Bool.or_eq_false_iff] at c2
   exact absurd c2r (by decide)
  ·skip
   have c2r := c2
   try simp only [Bool.not_eq_true', Bool.not_eq_false', Bool.not_true, Bool.not_false, decide_eq_true_eq, decide_eq_false_iff_not, Bool.and_eq_true, Bool.or_eq_false_iff] at c2
   refine kc_skipQ ?_
   refine kq_code ?_
   refine kc_seq ?_
   refine kc_seq (kc_region ?_)
   refine kl_mv rfl ?_
   refine kl_mv rfl ?_
   refine kl_lss rfl rfl ?_
   refine kl_nil (kq_code ?_)
   refine kc_if rfl (fun c3 => ?_) (fun c3 => ?_)
   ·skip
    refine kc_seq (kc_region ?_)
    refine kl_as rfl ?_
    refine kl_nil (kq_code ?_)
    refine kc_ret ?_
    refine kq_retP rfl rfl (congrArg (Value.int .i64) ?_)
    exact cmpI_1 (by assumption)
   ·skip
    refine kc_skipQ ?_
    refine kq_code ?_
    refine kc_seq ?_
    refine kc_seq (kc_region ?_)
    refine kl_mv rfl ?_
    refine kl_mv rfl ?_
    refine kl_gtr rfl rfl ?_
    refine kl_nil (kq_code ?_)
    refine kc_if rfl (fun c4 => ?_) (fun c4 => ?_)
    ·skip
     refine kc_seq (kc_region ?_)
     refine kl_as rfl ?_
     refine kl_nil (kq_code ?_)
     refine kc_ret ?_
     refine kq_retP rfl rfl (congrArg (Value.int .i64) ?_)
     exact cmpI_2 (by assumption) (by assumption)
    ·skip
     refine kc_skipQ ?_
     refine kq_code ?_
     refine kc_seq (kc_region ?_)
     refine kl_as rfl ?_
     refine kl_nil (kq_code ?_)
     refine kc_ret ?_
     refine kq_retP rfl rfl (congrArg (Value.int .i64) ?_)
     exact cmpI_3 (by assumption) (by assumption)
end Go.Proofs.YtbbphbihgikmdaaGreat
