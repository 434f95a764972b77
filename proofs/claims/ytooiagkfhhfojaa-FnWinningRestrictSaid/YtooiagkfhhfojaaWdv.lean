/- Walks of functions of the program: each returns what the plain function gives. Conditions: those that each statement names. -/
import Derived.Test.YtooiagkfhhfojaaWsat
import Derived.Test.YtooiagkfhhfojaaPureN
namespace Go.Proofs.Ytooiagkfhhfojaa
open Go
set_option linter.unusedSimpArgs false
set_option linter.unusedVariables false
theorem validDomI_ok (d : Int) : SpecP Try.prog 69 [.int .i64 d] [] (.bool (withinB d 0 63)) := by
  refine spec_of Try.func69 rfl rfl rfl (fun B => ?_)
  refine kc_seq ?_
  refine kc_region ?_
  refine kl_as rfl ?_
  refine kl_nil ?_
  refine kq_code ?_
  refine kc_seq ?_
  refine kc_region ?_
  refine kl_mv rfl ?_
  refine kl_callP rfl rfl (within_ok d (0 : Int) (63 : Int)) ?_
  refine kl_as rfl ?_
  refine kl_nil ?_
  refine kq_code ?_
  refine kc_ret ?_
  refine kq_retP rfl rfl (congrArg Value.bool ?_)
  rfl
theorem valueOk_ok (v : Int) : SpecP Try.prog 70 [.int .i64 v] [] (.bool (withinB v 0 5)) := by
  refine spec_of Try.func70 rfl rfl rfl (fun B => ?_)
  refine kc_seq ?_
  refine kc_region ?_
  refine kl_as rfl ?_
  refine kl_nil ?_
  refine kq_code ?_
  refine kc_seq ?_
  refine kc_region ?_
  refine kl_mv rfl ?_
  refine kl_callP rfl rfl (within_ok v (0 : Int) (5 : Int)) ?_
  refine kl_as rfl ?_
  refine kl_nil ?_
  refine kq_code ?_
  refine kc_ret ?_
  refine kq_retP rfl rfl (congrArg Value.bool ?_)
  rfl
theorem domainVals_ok (d : Int) : Spec Try.prog 25 [.int .i64 d] [] (fun Hq vq => Ints Hq vq (domVI d)) := by
  refine spec_of Try.func25 rfl rfl rfl (fun B => ?_)
  refine kc_seq ?_
  refine kc_region ?_
  refine kl_as rfl ?_
  refine kl_nil ?_
  refine kq_code ?_
  refine kc_seq ?_
  refine kc_seq ?_
  refine kc_region ?_
  refine kl_mv rfl ?_
  refine kl_callP rfl rfl (validDomI_ok d) ?_
  refine kl_not rfl ?_
  refine kl_nil ?_
  refine kq_code ?_
  refine kc_cond rfl (fun c1 => ?_) (fun c1 => ?_)
  · skip
    have c1r := c1
    try simp only [Bool.not_eq_true', Bool.not_eq_false', Bool.not_true, Bool.not_false, decide_eq_true_eq, decide_eq_false_iff_not, Bool.and_eq_true, Bool.or_eq_false_iff] at c1
    refine kc_seq ?_
    refine kc_region ?_
    refine kl_as rfl ?_
    refine kl_nil ?_
    refine kq_code ?_
    refine kc_ret ?_
    exact kq_ret rfl rfl noHp (fr_no _) (by rw [show domVI d = [] from if_neg (by simpa using (by assumption : (!(withinB d 0 63)) = true))]; exact Sl.nil)
  · skip
    have c1r := c1
    try simp only [Bool.not_eq_true', Bool.not_eq_false', Bool.not_true, Bool.not_false, decide_eq_true_eq, decide_eq_false_iff_not, Bool.and_eq_true, Bool.or_eq_false_iff] at c1
    have hw : withinB d 0 63 = true := (by simpa using c1r)
    rw [withinB_iff] at hw
    refine kc_skipQ ?_
    refine kq_code ?_
    refine kc_seq ?_
    refine kc_region ?_
    refine kl_mv rfl ?_
    refine kl_call rfl rfl (valuesOf_ok d hw) (fun v2 H3 f4 h5 => ?_)
    refine kl_as rfl ?_
    refine kl_nil ?_
    refine kq_code ?_
    refine kc_ret ?_
    exact kq_ret rfl rfl H3 f4 (by rw [show domVI d = valsI d from if_pos (by simpa using (by assumption : (!(withinB d 0 63)) = false))]; assumption)
theorem domainHasI_ok (d : Int) (v : Int) : SpecP Try.prog 27 [.int .i64 d, .int .i64 v] [] (.bool (dhasB d v)) := by
  refine spec_of Try.func27 rfl rfl rfl (fun B => ?_)
  refine kc_seq ?_
  refine kc_region ?_
  refine kl_as rfl ?_
  refine kl_nil ?_
  refine kq_code ?_
  refine kc_seq ?_
  refine kc_region ?_
  refine kl_mv rfl ?_
  refine kl_callP rfl rfl (validDomI_ok d) ?_
  refine kl_mv rfl ?_
  refine kl_join 3 10 (.bool ((withinB d 0 63) && (withinB v 0 5))) (pc 0 rfl (pc 1 rfl (pc 4 rfl (pc 7 rfl pn)))) (fun J2 => ?_) ?_
  · rcases Bool.eq_false_or_eq_true (withinB d 0 63) with g1 | g1
    · skip
      have g1p := g1
      try simp only [Bool.not_eq_true', Bool.not_eq_false', decide_eq_true_eq, decide_eq_false_iff_not, Bool.and_eq_true, Bool.or_eq_false_iff, withinB_iff] at g1p
      refine kl_gT rfl rfl g1 ?_
      refine kl_mv rfl ?_
      refine kl_gT rfl rfl g1 ?_
      refine kl_callP rfl rfl (valueOk_ok v) ?_
      refine kl_andT rfl rfl g1 ?_
      exact J2 _ (pc 10 rfl (pc 0 rfl (pc 1 rfl (pc 4 rfl (pc 7 rfl pn)))))
    · skip
      refine kl_gF rfl rfl g1 ?_
      refine kl_gF rfl rfl g1 ?_
      refine kl_andF (withinB v 0 5) rfl rfl g1 ?_
      exact J2 _ (pc 10 rfl (pc 0 rfl (pc 1 rfl (pc 4 rfl (pc 7 rfl pn)))))
  refine kl_mv rfl ?_
  refine kl_join 4 15 (.bool (((withinB d 0 63) && (withinB v 0 5)) && (hasB d v))) (pc 4 rfl (pc 11 rfl pn)) (fun J4 => ?_) ?_
  · rcases Bool.eq_false_or_eq_true ((withinB d 0 63) && (withinB v 0 5)) with g3 | g3
    · skip
      have g3p := g3
      try simp only [Bool.not_eq_true', Bool.not_eq_false', decide_eq_true_eq, decide_eq_false_iff_not, Bool.and_eq_true, Bool.or_eq_false_iff, withinB_iff] at g3p
      refine kl_gT rfl rfl g3 ?_
      refine kl_mv rfl ?_
      refine kl_gT rfl rfl g3 ?_
      refine kl_mv rfl ?_
      refine kl_gT rfl rfl g3 ?_
      refine kl_callP rfl rfl (has_ok d v (by omega)) ?_
      refine kl_andT rfl rfl g3 ?_
      exact J4 _ (pc 15 rfl (pc 4 rfl (pc 11 rfl pn)))
    · skip
      refine kl_gF rfl rfl g3 ?_
      refine kl_gF rfl rfl g3 ?_
      refine kl_gF rfl rfl g3 ?_
      refine kl_andF (hasB d v) rfl rfl g3 ?_
      exact J4 _ (pc 15 rfl (pc 4 rfl (pc 11 rfl pn)))
  refine kl_as rfl ?_
  refine kl_nil ?_
  refine kq_code ?_
  refine kc_ret ?_
  refine kq_retP rfl rfl (congrArg Value.bool ?_)
  rfl
end Go.Proofs.Ytooiagkfhhfojaa
