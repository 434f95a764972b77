/- Walks of functions of the program: each returns what the plain function gives. Conditions: those that each statement names. -/
import Derived.Test.YtigngogjgohfgaaGreatWsat
import Derived.Test.YtigngogjgohfgaaGreatPureN
namespace Go.Proofs.YtigngogjgohfgaaGreat
open Go
set_option linter.unusedSimpArgs false
set_option linter.unusedVariables false
theorem validDomI_ok (d : Int) : SpecP Tryz.prog 92 [.int .i64 d] [] (.bool (withinB d 0 63)) := by
  refine spec_of Tryz.func92 rfl rfl rfl (fun B => ?_)
  refine kc_seq ?_
  refine kc_region ?_
  refine kl_as rfl ?_
  refine kl_nil ?_
  refine kq_code ?_
  refine kc_seq ?_
  refine kc_region ?_
  refine kl_mv rfl ?_
  refine kl_callP rfl rfl (within_ok d (0 : Int) (63 : Int)) ?_
  refine kl_as rfl ?_
  refine kl_nil ?_
  refine kq_code ?_
  refine kc_ret ?_
  refine kq_retP rfl rfl (congrArg Value.bool ?_)
  rfl
end Go.Proofs.YtigngogjgohfgaaGreat
