/- Walks of functions of the program: each returns what the plain function gives. Conditions: those that each statement names. -/
import Derived.Test.YtiilanckbocifaaWfilt
import Derived.Test.YtiilanckbocifaaWssat
import Derived.Test.YtiilanckbocifaaSol
import Derived.Test.YtiilanckbocifaaPureS
import Derived.Test.YtiilanckbocifaaPureR
namespace Go.Proofs.Ytiilanckbocifaa
open Go
set_option linter.unusedSimpArgs false
set_option linter.unusedVariables false
theorem validAsg_ok {Hmd : Hp} {vmd : Value} {Hmc : Hp} {vmc : Value} {Hx : Hp} {vx : Value} (m : Mod) (x : List Int) (hmd : Ints Hmd vmd m.doms) (hmc : Cons Hmc vmc m.cons) (hx : Ints Hx vx x) : SpecP Try.prog 50 [.agg #[vmd, vmc], vx] [Hmd, Hmc, Hx] (.bool (decide ((x.length : Int) = (m.doms.length : Int)) && allInB x 0 5)) := by
 refine spec_of Try.func50 rfl rfl rfl (fun B => ?_)
 refine kc_seq (kc_region (kl_box rfl rfl (fun p1 H2 f3 a4 => ?_)))
 refine kl_as rfl (kl_nil (kq_code (kc_seq (kc_region (kl_mv rfl (kl_len rfl (by assumption) (fun l5 => ?_)))))))
 refine kl_fd rfl (by assumption) (fun p6 a7 => ?_)
 refine kl_ld rfl (by assumption) (kl_len rfl (by assumption) (fun l8 => ?_))
 refine kl_eql rfl rfl ?_
 refine kl_mv rfl (kl_join 3 14 (.bool (decide ((x.length : Int) = (m.doms.length : Int)) && (allInB x (0 : Int) (5 : Int)))) (pc 4 rfl (pc 11 rfl pn)) (fun J10 => ?_) ?_)
 ·rcases Bool.eq_false_or_eq_true (decide ((x.length : Int) = (m.doms.length : Int))) with g9 | g9
  ·skip
   have g9p := of_decide_eq_true g9
   refine kl_gT rfl rfl g9 (kl_mv rfl (kl_gT rfl rfl g9 (kl_callP rfl rfl (allInRange_ok x (0 : Int) (5 : Int) (by assumption)) ?_)))
   refine kl_andT rfl rfl g9 ?_
   exact J10 _ (pc 14 rfl (pc 4 rfl (pc 11 rfl pn)))
  ·skip
   refine kl_gF rfl rfl g9 (kl_gF rfl rfl g9 (kl_andF (allInB x (0 : Int) (5 : Int)) rfl rfl g9 ?_))
   exact J10 _ (pc 14 rfl (pc 4 rfl (pc 11 rfl pn)))
 refine kl_as rfl (kl_nil (kq_code (kc_ret (kq_retP rfl rfl (congrArg Value.bool ?_)))))
 rfl
end Go.Proofs.Ytiilanckbocifaa
