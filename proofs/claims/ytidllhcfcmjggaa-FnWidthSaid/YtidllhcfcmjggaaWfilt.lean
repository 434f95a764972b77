/- Walks of functions of the program: each returns what the plain function gives. Conditions: those that each statement names. -/
import Derived.Test.YtidllhcfcmjggaaWtup
import Derived.Test.YtidllhcfcmjggaaSol
import Derived.Test.YtidllhcfcmjggaaPureS
namespace Go.Proofs.Ytidllhcfcmjggaa
open Go
set_option linter.unusedSimpArgs false
set_option linter.unusedVariables false
theorem tuples_ok {Hds : Hp} {vds : Value} (ds : List Int) (hds : Ints Hds vds ds) : Spec Try.prog 35 [vds] [Hds] (fun Hq vq => ∃ p : Value, vq = .func (.func 67) #[] #[p] ∧ At Hq p [vds]) := by
 refine spec_of Try.func35 rfl rfl rfl (fun B => ?_)
 refine kc_seq (kc_region ?_)
 refine kl_box rfl (Sl.cells (by assumption)) (fun p1 H2 f3 a4 => ?_)
 refine kl_as rfl ?_
 refine kl_nil (kq_code (kc_seq (kc_region ?_)))
 refine kl_mkf rfl ?_
 refine kl_as rfl ?_
 refine kl_nil (kq_code ?_)
 refine kc_ret ?_
 exact kq_ret rfl rfl H2 f3 ⟨_, rfl, a4⟩
end Go.Proofs.Ytidllhcfcmjggaa
