/- Walks of functions of the program: each returns what the plain function gives. Conditions: those that each statement names. -/
import Derived.Test.YtiilanckbocifaaItr
import Derived.Test.YtiilanckbocifaaWsat
import Derived.Test.YtiilanckbocifaaSol
import Derived.Test.YtiilanckbocifaaPureS
namespace Go.Proofs.Ytiilanckbocifaa
open Go
set_option linter.unusedSimpArgs false
set_option linter.unusedVariables false
theorem assigned_ok {Hx : Hp} {vx : Value} (x : List Int) (n : Int) (hx : Ints Hx vx x) : SpecP Try.prog 41 [vx, .int .i64 n] [Hx] (.bool (decide ((x.length : Int) = n) && allInB x 0 5)) := by
 refine spec_of Try.func41 rfl rfl rfl (fun B => ?_)
 refine kc_seq (kc_region (kl_as rfl (kl_nil (kq_code (kc_seq (kc_region (kl_mv rfl (kl_len rfl (by assumption) (fun l1 => ?_)))))))))
 refine kl_mv rfl (kl_eql rfl rfl ?_)
 refine kl_mv rfl (kl_join 3 12 (.bool (decide ((x.length : Int) = n) && (allInB x (0 : Int) (5 : Int)))) (pc 4 rfl (pc 9 rfl pn)) (fun J3 => ?_) ?_)
 ·rcases Bool.eq_false_or_eq_true (decide ((x.length : Int) = n)) with g2 | g2
  ·skip
   have g2p := of_decide_eq_true g2
   refine kl_gT rfl rfl g2 (kl_mv rfl (kl_gT rfl rfl g2 (kl_callP rfl rfl (allIn_ok x (0 : Int) (5 : Int) (by assumption)) ?_)))
   refine kl_andT rfl rfl g2 ?_
   exact J3 _ (pc 12 rfl (pc 4 rfl (pc 9 rfl pn)))
  ·skip
   refine kl_gF rfl rfl g2 (kl_gF rfl rfl g2 (kl_andF (allInB x (0 : Int) (5 : Int)) rfl rfl g2 ?_))
   exact J3 _ (pc 12 rfl (pc 4 rfl (pc 9 rfl pn)))
 refine kl_as rfl (kl_nil (kq_code (kc_ret (kq_retP rfl rfl (congrArg Value.bool ?_)))))
 rfl
end Go.Proofs.Ytiilanckbocifaa
