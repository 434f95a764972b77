/- Walks of functions of the program: each returns what the plain function gives. Conditions: those that each statement names. -/
import Derived.Test.YtiilanckbocifaaGreatWwin
namespace Go.Proofs.YtiilanckbocifaaGreat
open Go
set_option linter.unusedSimpArgs false
set_option linter.unusedVariables false
theorem gameOk_ok {Hmd : Hp} {vmd : Value} {Hmc : Hp} {vmc : Value} {Hfa : Hp} {vfa : Value} (m : Mod) (fa : List Bool) (hmd : Ints Hmd vmd m.doms) (hmc : Cons Hmc vmc m.cons) (hfa : Bools Hfa vfa fa) : SpecP Tryz.prog 28 [.agg #[vmd, vmc], vfa] [Hmd, Hmc, Hfa] (.bool (gOkB m fa)) := by
 refine spec_of Tryz.func28 rfl rfl rfl (fun B => ?_)
 refine kc_seq (kc_region (kl_box rfl rfl (fun p1 H2 f3 a4 => ?_)))
 refine kl_as rfl (kl_nil (kq_code (kc_seq (kc_region (kl_ldS rfl (by assumption) rfl ?_)))))
 refine kl_mv rfl (kl_callP rfl rfl (formulaOk_ok m fa (by assumption) (by assumption) (by assumption)) ?_)
 refine kl_mv rfl (kl_join 5 13 (.bool ((fOkB m fa) && !(m.doms.contains (0 : Int)))) (pc 4 rfl (pc 8 rfl pn)) (fun J8 => ?_) ?_)
 ·rcases Bool.eq_false_or_eq_true (fOkB m fa) with g5 | g5
  ·skip
   have g5p := g5
   try simp only [Bool.not_eq_true', Bool.not_eq_false', decide_eq_true_eq, decide_eq_false_iff_not, Bool.and_eq_true, Bool.or_eq_false_iff, withinB_iff] at g5p
   refine kl_gT rfl rfl g5 (kl_fd rfl (by assumption) (fun p6 a7 => ?_))
   refine kl_gT rfl rfl g5 (kl_ld rfl (by assumption) (kl_gT rfl rfl g5 (kl_callP rfl rfl (containsInts_ok m.doms (0 : Int) (by assumption)) ?_)))
   refine kl_gT rfl rfl g5 (kl_not rfl (kl_andT rfl rfl g5 ?_))
   exact J8 _ (pc 13 rfl (pc 4 rfl (pc 8 rfl pn)))
  ·skip
   refine kl_gF rfl rfl g5 (kl_gF rfl rfl g5 (kl_gF rfl rfl g5 (kl_gF rfl rfl g5 (kl_andF (!(m.doms.contains (0 : Int))) rfl rfl g5 ?_))))
   exact J8 _ (pc 13 rfl (pc 4 rfl (pc 8 rfl pn)))
 refine kl_as rfl (kl_nil (kq_code (kc_ret (kq_retP rfl rfl (congrArg Value.bool ?_)))))
 rfl
end Go.Proofs.YtiilanckbocifaaGreat
