/- Walks of functions of the program: each returns what the plain function gives. Conditions: those that each statement names. -/
import Derived.Test.YtiilanckbocifaaDoorWfix
import Derived.Test.YtiilanckbocifaaDoorPureV
namespace Go.Proofs.YtiilanckbocifaaDoor
open Go
set_option linter.unusedSimpArgs false
set_option linter.unusedVariables false
theorem countSols_ok {Hmd : Hp} {vmd : Value} {Hmc : Hp} {vmc : Value} (m : Mod) (hmd : Ints Hmd vmd m.doms) (hmc : Cons Hmc vmc m.cons) : SpecP Tryd.prog 9 [.agg #[vmd, vmc]] [Hmd, Hmc] (.int .i64 (cntI m)) := by
 refine spec_of Tryd.func9 rfl rfl rfl (fun B => ?_)
 refine kc_seq (kc_region (kl_box rfl rfl (fun p1 H2 f3 a4 => ?_)))
 refine kl_as rfl (kl_nil (kq_code (kc_seq (kc_seq (kc_region (kl_ldS rfl (by assumption) rfl ?_))))))
 refine kl_callP rfl rfl (validMod_ok m (by assumption) (by assumption)) ?_
 refine kl_not rfl (kl_nil (kq_code (kc_cond rfl (fun c5 => ?_) (fun c5 => ?_))))
 ·skip
  have c5r := c5
  try simp only [smpC, decide_eq_true_eq, decide_eq_false_iff_not] at c5
  refine kc_seq (kc_region (kl_as rfl (kl_nil (kq_code (kc_ret (kq_retP rfl rfl (congrArg (Value.int .i64) ?_)))))))
  exact cnt_no (by assumption)
 ·skip
  have c5r := c5
  try simp only [smpC, decide_eq_true_eq, decide_eq_false_iff_not] at c5
  have hv : validModB m = true := (by simpa using c5r)
  have hM : MOk m := ⟨hv⟩
  refine kc_skipQ (kq_code (kc_seq (kc_region (kl_ldS rfl (by assumption) rfl ?_))))
  refine kl_call rfl rfl (solutions_ok m hM (by assumption) (by assumption)) (fun v6 H7 f8 h9 => ?_)
  refine kl_len rfl (by assumption) (fun l10 => ?_)
  refine kl_as rfl (kl_nil (kq_code (kc_ret (kq_retP rfl rfl (congrArg (Value.int .i64) ?_)))))
  exact cnt_yes hv
end Go.Proofs.YtiilanckbocifaaDoor
