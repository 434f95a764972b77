/- Walks of functions of the program: each returns what the plain function gives. Conditions: those that each statement names. -/
import Derived.Test.YtidllhcfcmjggaaGreatWvalid
import Derived.Test.YtidllhcfcmjggaaGreatPure
namespace Go.Proofs.YtidllhcfcmjggaaGreat
open Go
set_option linter.unusedSimpArgs false
set_option linter.unusedVariables false
theorem has_ok (m : Int) (i : Int) (h0 : 0 ≤ i) : SpecP Tryz.prog 49 [.int .i64 m, .int .i64 i] [] (.bool (hasB m i)) := by
 refine spec_of Tryz.func49 rfl rfl rfl (fun B => ?_)
 refine kc_seq (kc_region ?_)
 refine kl_as rfl ?_
 refine kl_nil (kq_code (kc_seq (kc_region ?_)))
 refine kl_mv rfl ?_
 refine kl_mv rfl ?_
 refine kl_shr rfl rfl (by omega) ?_
 refine kl_and rfl rfl ?_
 refine kl_eql rfl rfl ?_
 refine kl_as rfl ?_
 refine kl_nil (kq_code ?_)
 refine kc_ret ?_
 refine kq_retP rfl rfl (congrArg Value.bool ?_)
 rfl
end Go.Proofs.YtidllhcfcmjggaaGreat
