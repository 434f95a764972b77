/- Walks of functions of the program: each returns what the plain function gives. Conditions: those that each statement names. -/
import Derived.Test.YtiilanckbocifaaTys
import Derived.Test.YtiilanckbocifaaMut
namespace Go.Proofs.Ytiilanckbocifaa
open Go
set_option linter.unusedSimpArgs false
set_option linter.unusedVariables false
theorem clip_ok {Hxs : Hp} {vxs : Value} (xs : List Int) (hxs : Ints Hxs vxs xs) : Spec Try.prog 90 [vxs] [Hxs] (fun _ vq => Ints Hxs vq xs ∧ ClipV vxs vq xs.length) := by
 refine spec_of Try.func90 rfl rfl rfl (fun B => ?_)
 refine kc_seq (kc_region (kl_as rfl (kl_nil (kq_code (kc_seq (kc_region (kl_mv rfl (kl_mv rfl (kl_len rfl (by assumption) (fun l1 => ?_))))))))))
 refine kl_mv rfl (kl_len rfl (by assumption) (fun l2 => ?_))
 refine kl_clipV rfl rfl rfl (by assumption) (by omega) (fun u3 h4 h4v => ?_)
 refine kl_as rfl (kl_nil (kq_code (kc_ret ?_)))
 exact kq_ret rfl rfl noHp (fr_no _) ⟨by assumption, by assumption⟩
end Go.Proofs.Ytiilanckbocifaa
