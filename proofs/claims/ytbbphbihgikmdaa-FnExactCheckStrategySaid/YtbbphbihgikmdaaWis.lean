/- Walks of functions of the program: each returns what the plain function gives. Conditions: those that each statement names. -/
import Derived.Test.YtbbphbihgikmdaaWfix
import Derived.Test.YtbbphbihgikmdaaWsolve
import Derived.Test.YtbbphbihgikmdaaPureR
namespace Go.Proofs.Ytbbphbihgikmdaa
open Go
set_option linter.unusedSimpArgs false
set_option linter.unusedVariables false
theorem validAsg_ok {Hmd : Hp} {vmd : Value} {Hmc : Hp} {vmc : Value} {Hx : Hp} {vx : Value} (m : Mod) (x : List Int) (hmd : Ints Hmd vmd m.doms) (hmc : Cons Hmc vmc m.cons) (hx : Ints Hx vx x) : SpecP Try.prog 59 [.agg #[vmd, vmc], vx] [Hmd, Hmc, Hx] (.bool (decide ((x.length : Int) = (m.doms.length : Int)) && allInB x 0 5)) := by
 refine spec_of Try.func59 rfl rfl rfl (fun B => ?_)
 refine kc_seq (kc_region ?_)
 refine kl_box rfl rfl (fun p1 H2 f3 a4 => ?_)
 refine kl_as rfl ?_
 refine kl_nil (kq_code (kc_seq (kc_region ?_)))
 refine kl_mv rfl ?_
 refine kl_len rfl (by assumption) (fun l5 => ?_)
 refine kl_fd rfl (by assumption) (fun p6 a7 => ?_)
 refine kl_ld rfl (by assumption) ?_
 refine kl_len rfl (by assumption) (fun l8 => ?_)
 refine kl_eql rfl rfl ?_
 refine kl_mv rfl ?_
 refine kl_join 3 14 (.bool (decide ((x.length : Int) = (m.doms.length : Int)) && (allInB x (0 : Int) (5 : Int)))) (pc 4 rfl (pc 11 rfl pn)) (fun J10 => ?_) ?_
 ·rcases Bool.eq_false_or_eq_true (decide ((x.length : Int) = (m.doms.length : Int))) with g9 | g9
  ·skip
   have g9p := of_decide_eq_true g9
   refine kl_gT rfl rfl g9 ?_
   refine kl_mv rfl ?_
   refine kl_gT rfl rfl g9 ?_
   refine kl_callP rfl rfl (allInRange_ok x (0 : Int) (5 : Int) (by assumption)) ?_
   refine kl_andT rfl rfl g9 ?_
   exact J10 _ (pc 14 rfl (pc 4 rfl (pc 11 rfl pn)))
  ·skip
   refine kl_gF rfl rfl g9 ?_
   refine kl_gF rfl rfl g9 ?_
   refine kl_andF (allInB x (0 : Int) (5 : Int)) rfl rfl g9 ?_
   exact J10 _ (pc 14 rfl (pc 4 rfl (pc 11 rfl pn)))
 refine kl_as rfl ?_
 refine kl_nil (kq_code ?_)
 refine kc_ret ?_
 refine kq_retP rfl rfl (congrArg Value.bool ?_)
 rfl
end Go.Proofs.Ytbbphbihgikmdaa
