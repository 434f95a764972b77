/- Walks of functions of the program: each returns what the plain function gives. Conditions: those that each statement names. -/
import Derived.Test.YtiilanckbocifaaGreatWvalid
import Derived.Test.YtiilanckbocifaaGreatPure
namespace Go.Proofs.YtiilanckbocifaaGreat
open Go
set_option linter.unusedSimpArgs false
set_option linter.unusedVariables false
theorem has_ok (m : Int) (i : Int) (h0 : 0 ≤ i) : SpecP Tryz.prog 61 [.int .i64 m, .int .i64 i] [] (.bool (hasB m i)) := by
 refine spec_of Tryz.func61 rfl rfl rfl (fun B => ?_)
 refine kc_seq (kc_region (kl_as rfl (kl_nil (kq_code (kc_seq (kc_region (kl_mv rfl (kl_mv rfl (kl_shr rfl rfl (by omega) ?_)))))))))
 refine kl_and rfl rfl ?_
 refine kl_eql rfl rfl ?_
 refine kl_as rfl (kl_nil (kq_code (kc_ret (kq_retP rfl rfl (congrArg Value.bool ?_)))))
 rfl
end Go.Proofs.YtiilanckbocifaaGreat
