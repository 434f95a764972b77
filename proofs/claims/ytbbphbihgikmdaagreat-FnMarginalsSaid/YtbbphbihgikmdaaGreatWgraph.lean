/- Walks of functions of the program: each returns what the plain function gives. Conditions: those that each statement names. -/
import Derived.Test.YtbbphbihgikmdaaGreatWvalid
import Derived.Test.YtbbphbihgikmdaaGreatPure
namespace Go.Proofs.YtbbphbihgikmdaaGreat
open Go
set_option linter.unusedSimpArgs false
set_option linter.unusedVariables false
theorem has_ok (m : Int) (i : Int) (h0 : 0 ≤ i) : SpecP Tryz.prog 70 [.int .i64 m, .int .i64 i] [] (.bool (hasB m i)) := by
 refine spec_of Tryz.func70 rfl rfl rfl (fun B => ?_)
 refine kc_seq (kc_region ?_)
 refine kl_as rfl ?_
 refine kl_nil (kq_code (kc_seq (kc_region ?_)))
 refine kl_mv rfl ?_
 refine kl_mv rfl ?_
 refine kl_shr rfl rfl (by omega) ?_
 refine kl_and rfl rfl ?_
 refine kl_eql rfl rfl ?_
 refine kl_as rfl ?_
 refine kl_nil (kq_code ?_)
 refine kc_ret ?_
 refine kq_retP rfl rfl (congrArg Value.bool ?_)
 rfl
theorem varsIn_ok {Hmd : Hp} {vmd : Value} {Hmc : Hp} {vmc : Value} {Hvars : Hp} {vvars : Value} (m : Mod) (vars : List Int) (hmd : Ints Hmd vmd m.doms) (hmc : Cons Hmc vmc m.cons) (hvars : Ints Hvars vvars vars) : SpecP Tryz.prog 73 [.agg #[vmd, vmc], vvars] [Hmd, Hmc, Hvars] (.bool (varsInB m vars)) := by
 refine spec_of Tryz.func73 rfl rfl rfl (fun B => ?_)
 refine kc_seq (kc_region ?_)
 refine kl_box rfl rfl (fun p1 H2 f3 a4 => ?_)
 refine kl_as rfl ?_
 refine kl_nil (kq_code (kc_seq (kc_region ?_)))
 refine kl_ldS rfl (by assumption) rfl ?_
 refine kl_callP rfl rfl (validMod_ok m (by assumption) (by assumption)) ?_
 refine kl_mv rfl ?_
 refine kl_join 7 14 (.bool ((validModB m) && (allInB vars (0 : Int) ((m.doms.length : Int) - (1 : Int))))) (pc 4 rfl (pc 7 rfl pn)) (fun J9 => ?_) ?_
 ·rcases Bool.eq_false_or_eq_true (validModB m) with g5 | g5
  ·skip
   have g5p := g5
   try simp only [Bool.not_eq_true', Bool.not_eq_false', decide_eq_true_eq, decide_eq_false_iff_not, Bool.and_eq_true, Bool.or_eq_false_iff, withinB_iff] at g5p
   refine kl_gT rfl rfl g5 ?_
   refine kl_mv rfl ?_
   refine kl_gT rfl rfl g5 ?_
   refine kl_fd rfl (by assumption) (fun p6 a7 => ?_)
   refine kl_gT rfl rfl g5 ?_
   refine kl_ld rfl (by assumption) ?_
   refine kl_gT rfl rfl g5 ?_
   refine kl_len rfl (by assumption) (fun l8 => ?_)
   refine kl_gT rfl rfl g5 ?_
   refine kl_sub rfl rfl (by omega) ?_
   refine kl_gT rfl rfl g5 ?_
   refine kl_callP rfl rfl (allIn_ok vars (0 : Int) ((m.doms.length : Int) - (1 : Int)) (by assumption)) ?_
   refine kl_andT rfl rfl g5 ?_
   exact J9 _ (pc 14 rfl (pc 4 rfl (pc 7 rfl pn)))
  ·skip
   refine kl_gF rfl rfl g5 ?_
   refine kl_gF rfl rfl g5 ?_
   refine kl_gF rfl rfl g5 ?_
   refine kl_gF rfl rfl g5 ?_
   refine kl_gF rfl rfl g5 ?_
   refine kl_gF rfl rfl g5 ?_
   refine kl_andF (allInB vars (0 : Int) ((m.doms.length : Int) - (1 : Int))) rfl rfl g5 ?_
   exact J9 _ (pc 14 rfl (pc 4 rfl (pc 7 rfl pn)))
 refine kl_as rfl ?_
 refine kl_nil (kq_code ?_)
 refine kc_ret ?_
 refine kq_retP rfl rfl (congrArg Value.bool ?_)
 rfl
end Go.Proofs.YtbbphbihgikmdaaGreat
