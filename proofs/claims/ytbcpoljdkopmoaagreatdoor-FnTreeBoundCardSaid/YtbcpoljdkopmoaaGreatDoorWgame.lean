/- Walks of functions of the program: each returns what the plain function gives. Conditions: those that each statement names. -/
import Derived.Test.YtbcpoljdkopmoaaGreatDoorWsat
namespace Go.Proofs.YtbcpoljdkopmoaaGreatDoor
open Go
set_option linter.unusedSimpArgs false
set_option linter.unusedVariables false
theorem objectiveOk_ok {Hmd : Hp} {vmd : Value} {Hmc : Hp} {vmc : Value} {Hobj : Hp} {vobj : Value} (m : Mod) (obj : List Int) (hmd : Ints Hmd vmd m.doms) (hmc : Cons Hmc vmc m.cons) (hobj : Ints Hobj vobj obj) : SpecP Tryz.prog 14 [.agg #[vmd, vmc], vobj] [Hmd, Hmc, Hobj] (.bool (objOkB m obj)) := by
 refine spec_of Tryz.func14 rfl rfl rfl (fun B => ?_)
 refine kc_seq (kc_region ?_)
 refine kl_box rfl rfl (fun p1 H2 f3 a4 => ?_)
 refine kl_as rfl ?_
 refine kl_nil (kq_code (kc_seq (kc_region ?_)))
 refine kl_ldS rfl (by assumption) rfl ?_
 refine kl_callP rfl rfl (validMod_ok m (by assumption) (by assumption)) ?_
 refine kl_mv rfl ?_
 refine kl_join 7 14 (.bool ((validModB m) && decide ((obj.length : Int) = (m.doms.length : Int)))) (pc 1 rfl (pc 4 rfl (pc 7 rfl pn))) (fun J10 => ?_) ?_
 ·rcases Bool.eq_false_or_eq_true (validModB m) with g5 | g5
  ·skip
   have g5p := g5
   try simp only [Bool.not_eq_true', Bool.not_eq_false', decide_eq_true_eq, decide_eq_false_iff_not, Bool.and_eq_true, Bool.or_eq_false_iff, withinB_iff] at g5p
   refine kl_gT rfl rfl g5 ?_
   refine kl_mv rfl ?_
   refine kl_gT rfl rfl g5 ?_
   refine kl_len rfl (by assumption) (fun l6 => ?_)
   refine kl_gT rfl rfl g5 ?_
   refine kl_fd rfl (by assumption) (fun p7 a8 => ?_)
   refine kl_gT rfl rfl g5 ?_
   refine kl_ld rfl (by assumption) ?_
   refine kl_gT rfl rfl g5 ?_
   refine kl_len rfl (by assumption) (fun l9 => ?_)
   refine kl_gT rfl rfl g5 ?_
   refine kl_eql rfl rfl ?_
   refine kl_andT rfl rfl g5 ?_
   exact J10 _ (pc 14 rfl (pc 1 rfl (pc 4 rfl (pc 7 rfl pn))))
  ·skip
   refine kl_gF rfl rfl g5 ?_
   refine kl_gF rfl rfl g5 ?_
   refine kl_gF rfl rfl g5 ?_
   refine kl_gF rfl rfl g5 ?_
   refine kl_gF rfl rfl g5 ?_
   refine kl_gF rfl rfl g5 ?_
   refine kl_andF (decide ((obj.length : Int) = (m.doms.length : Int))) rfl rfl g5 ?_
   exact J10 _ (pc 14 rfl (pc 1 rfl (pc 4 rfl (pc 7 rfl pn))))
 refine kl_mv rfl ?_
 refine kl_join 3 18 (.bool (((validModB m) && decide ((obj.length : Int) = (m.doms.length : Int))) && (allInB obj (-9 : Int) (9 : Int)))) (pc 4 rfl (pc 15 rfl pn)) (fun J12 => ?_) ?_
 ·rcases Bool.eq_false_or_eq_true ((validModB m) && decide ((obj.length : Int) = (m.doms.length : Int))) with g11 | g11
  ·skip
   have g11p := g11
   try simp only [Bool.not_eq_true', Bool.not_eq_false', decide_eq_true_eq, decide_eq_false_iff_not, Bool.and_eq_true, Bool.or_eq_false_iff, withinB_iff] at g11p
   refine kl_gT rfl rfl g11 ?_
   refine kl_mv rfl ?_
   refine kl_gT rfl rfl g11 ?_
   refine kl_callP rfl rfl (allIn_ok obj (-9 : Int) (9 : Int) (by assumption)) ?_
   refine kl_andT rfl rfl g11 ?_
   exact J12 _ (pc 18 rfl (pc 4 rfl (pc 15 rfl pn)))
  ·skip
   refine kl_gF rfl rfl g11 ?_
   refine kl_gF rfl rfl g11 ?_
   refine kl_andF (allInB obj (-9 : Int) (9 : Int)) rfl rfl g11 ?_
   exact J12 _ (pc 18 rfl (pc 4 rfl (pc 15 rfl pn)))
 refine kl_as rfl ?_
 refine kl_nil (kq_code ?_)
 refine kc_ret ?_
 refine kq_retP rfl rfl (congrArg Value.bool ?_)
 rfl
end Go.Proofs.YtbcpoljdkopmoaaGreatDoor
