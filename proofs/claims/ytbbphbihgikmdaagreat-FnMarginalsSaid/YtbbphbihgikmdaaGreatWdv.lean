/- Walks of functions of the program: each returns what the plain function gives. Conditions: those that each statement names. -/
import Derived.Test.YtbbphbihgikmdaaGreatWsat
import Derived.Test.YtbbphbihgikmdaaGreatPureN
namespace Go.Proofs.YtbbphbihgikmdaaGreat
open Go
set_option linter.unusedSimpArgs false
set_option linter.unusedVariables false
theorem validDomI_ok (d : Int) : SpecP Tryz.prog 68 [.int .i64 d] [] (.bool (withinB d 0 63)) := by
 refine spec_of Tryz.func68 rfl rfl rfl (fun B => ?_)
 refine kc_seq (kc_region ?_)
 refine kl_as rfl ?_
 refine kl_nil (kq_code (kc_seq (kc_region ?_)))
 refine kl_mv rfl ?_
 refine kl_callP rfl rfl (within_ok d (0 : Int) (63 : Int)) ?_
 refine kl_as rfl ?_
 refine kl_nil (kq_code ?_)
 refine kc_ret ?_
 refine kq_retP rfl rfl (congrArg Value.bool ?_)
 rfl
theorem valueOk_ok (v : Int) : SpecP Tryz.prog 69 [.int .i64 v] [] (.bool (withinB v 0 5)) := by
 refine spec_of Tryz.func69 rfl rfl rfl (fun B => ?_)
 refine kc_seq (kc_region ?_)
 refine kl_as rfl ?_
 refine kl_nil (kq_code (kc_seq (kc_region ?_)))
 refine kl_mv rfl ?_
 refine kl_callP rfl rfl (within_ok v (0 : Int) (5 : Int)) ?_
 refine kl_as rfl ?_
 refine kl_nil (kq_code ?_)
 refine kc_ret ?_
 refine kq_retP rfl rfl (congrArg Value.bool ?_)
 rfl
theorem domainHasI_ok (d : Int) (v : Int) : SpecP Tryz.prog 29 [.int .i64 d, .int .i64 v] [] (.bool (dhasB d v)) := by
 refine spec_of Tryz.func29 rfl rfl rfl (fun B => ?_)
 refine kc_seq (kc_region ?_)
 refine kl_as rfl ?_
 refine kl_nil (kq_code (kc_seq (kc_region ?_)))
 refine kl_mv rfl ?_
 refine kl_callP rfl rfl (validDomI_ok d) ?_
 refine kl_mv rfl ?_
 refine kl_join 3 10 (.bool ((withinB d 0 63) && (withinB v 0 5))) (pc 0 rfl (pc 1 rfl (pc 4 rfl (pc 7 rfl pn)))) (fun J2 => ?_) ?_
 ·rcases Bool.eq_false_or_eq_true (withinB d 0 63) with g1 | g1
  ·skip
   have g1p := g1
   try simp only [Bool.not_eq_true', Bool.not_eq_false', decide_eq_true_eq, decide_eq_false_iff_not, Bool.and_eq_true, Bool.or_eq_false_iff, withinB_iff] at g1p
   refine kl_gT rfl rfl g1 ?_
   refine kl_mv rfl ?_
   refine kl_gT rfl rfl g1 ?_
   refine kl_callP rfl rfl (valueOk_ok v) ?_
   refine kl_andT rfl rfl g1 ?_
   exact J2 _ (pc 10 rfl (pc 0 rfl (pc 1 rfl (pc 4 rfl (pc 7 rfl pn)))))
  ·skip
   refine kl_gF rfl rfl g1 ?_
   refine kl_gF rfl rfl g1 ?_
   refine kl_andF (withinB v 0 5) rfl rfl g1 ?_
   exact J2 _ (pc 10 rfl (pc 0 rfl (pc 1 rfl (pc 4 rfl (pc 7 rfl pn)))))
 refine kl_mv rfl ?_
 refine kl_join 4 15 (.bool (((withinB d 0 63) && (withinB v 0 5)) && (hasB d v))) (pc 4 rfl (pc 11 rfl pn)) (fun J4 => ?_) ?_
 ·rcases Bool.eq_false_or_eq_true ((withinB d 0 63) && (withinB v 0 5)) with g3 | g3
  ·skip
   have g3p := g3
   try simp only [Bool.not_eq_true', Bool.not_eq_false', decide_eq_true_eq, decide_eq_false_iff_not, Bool.and_eq_true, Bool.or_eq_false_iff, withinB_iff] at g3p
   refine kl_gT rfl rfl g3 ?_
   refine kl_mv rfl ?_
   refine kl_gT rfl rfl g3 ?_
   refine kl_mv rfl ?_
   refine kl_gT rfl rfl g3 ?_
   refine kl_callP rfl rfl (has_ok d v (by omega)) ?_
   refine kl_andT rfl rfl g3 ?_
   exact J4 _ (pc 15 rfl (pc 4 rfl (pc 11 rfl pn)))
  ·skip
   refine kl_gF rfl rfl g3 ?_
   refine kl_gF rfl rfl g3 ?_
   refine kl_gF rfl rfl g3 ?_
   refine kl_andF (hasB d v) rfl rfl g3 ?_
   exact J4 _ (pc 15 rfl (pc 4 rfl (pc 11 rfl pn)))
 refine kl_as rfl ?_
 refine kl_nil (kq_code ?_)
 refine kc_ret ?_
 refine kq_retP rfl rfl (congrArg Value.bool ?_)
 rfl
end Go.Proofs.YtbbphbihgikmdaaGreat
