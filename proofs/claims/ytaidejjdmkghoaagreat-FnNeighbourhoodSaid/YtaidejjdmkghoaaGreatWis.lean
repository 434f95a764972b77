/- Walks of functions of the program: each returns what the plain function gives. Conditions: those that each statement names. -/
import Derived.Test.YtaidejjdmkghoaaGreatWfix
import Derived.Test.YtaidejjdmkghoaaGreatWsolve
import Derived.Test.YtaidejjdmkghoaaGreatPureR
namespace Go.Proofs.YtaidejjdmkghoaaGreat
open Go
set_option linter.unusedSimpArgs false
set_option linter.unusedVariables false
theorem isSolI_ok {Hmd : Hp} {vmd : Value} {Hmc : Hp} {vmc : Value} {Hx : Hp} {vx : Value} (m : Mod) (x : List Int) (hmd : Ints Hmd vmd m.doms) (hmc : Cons Hmc vmc m.cons) (hx : Ints Hx vx x) : SpecP Tryz.prog 13 [.agg #[vmd, vmc], vx] [Hmd, Hmc, Hx] (.bool (isSolT m x)) := by
 refine spec_of Tryz.func13 rfl rfl rfl (fun B => ?_)
 refine kc_seq (kc_region ?_)
 refine kl_box rfl rfl (fun p1 H2 f3 a4 => ?_)
 refine kl_as rfl ?_
 refine kl_nil (kq_code (kc_seq (kc_region ?_)))
 refine kl_ldS rfl (by assumption) rfl ?_
 refine kl_callP rfl rfl (validMod_ok m (by assumption) (by assumption)) ?_
 refine kl_mv rfl ?_
 refine kl_join 6 13 (.bool ((validModB m) && (decide ((x.length : Int) = (m.doms.length : Int)) && allInB x 0 5))) (pc 1 rfl (pc 2 rfl (pc 4 rfl (pc 7 rfl pn)))) (fun J9 => ?_) ?_
 ·rcases Bool.eq_false_or_eq_true (validModB m) with g5 | g5
  ·skip
   have g5p := g5
   try simp only [Bool.not_eq_true', Bool.not_eq_false', decide_eq_true_eq, decide_eq_false_iff_not, Bool.and_eq_true, Bool.or_eq_false_iff, withinB_iff] at g5p
   refine kl_gT rfl rfl g5 ?_
   refine kl_mv rfl ?_
   refine kl_gT rfl rfl g5 ?_
   refine kl_fd rfl (by assumption) (fun p6 a7 => ?_)
   refine kl_gT rfl rfl g5 ?_
   refine kl_ld rfl (by assumption) ?_
   refine kl_gT rfl rfl g5 ?_
   refine kl_len rfl (by assumption) (fun l8 => ?_)
   refine kl_gT rfl rfl g5 ?_
   refine kl_callP rfl rfl (assigned_ok x (m.doms.length : Int) (by assumption)) ?_
   refine kl_andT rfl rfl g5 ?_
   exact J9 _ (pc 13 rfl (pc 1 rfl (pc 2 rfl (pc 4 rfl (pc 7 rfl pn)))))
  ·skip
   refine kl_gF rfl rfl g5 ?_
   refine kl_gF rfl rfl g5 ?_
   refine kl_gF rfl rfl g5 ?_
   refine kl_gF rfl rfl g5 ?_
   refine kl_gF rfl rfl g5 ?_
   refine kl_andF (decide ((x.length : Int) = (m.doms.length : Int)) && allInB x 0 5) rfl rfl g5 ?_
   exact J9 _ (pc 13 rfl (pc 1 rfl (pc 2 rfl (pc 4 rfl (pc 7 rfl pn)))))
 refine kl_mv rfl ?_
 refine kl_join 4 18 (.bool (((validModB m) && (decide ((x.length : Int) = (m.doms.length : Int)) && allInB x 0 5)) && (isSolB m x))) (pc 4 rfl (pc 14 rfl pn)) (fun J11 => ?_) ?_
 ·rcases Bool.eq_false_or_eq_true ((validModB m) && (decide ((x.length : Int) = (m.doms.length : Int)) && allInB x 0 5)) with g10 | g10
  ·skip
   have g10p := g10
   try simp only [Bool.not_eq_true', Bool.not_eq_false', decide_eq_true_eq, decide_eq_false_iff_not, Bool.and_eq_true, Bool.or_eq_false_iff, withinB_iff] at g10p
   have hM : MOk m := ⟨g10p.1⟩
   have hl : x.length = m.doms.length := (by have := g10p.2.1; omega)
   have hX : Vals x := vals_of g10p.2.2
   refine kl_gT rfl rfl g10 ?_
   refine kl_ldS rfl (by assumption) rfl ?_
   refine kl_gT rfl rfl g10 ?_
   refine kl_mv rfl ?_
   refine kl_gT rfl rfl g10 ?_
   refine kl_callP rfl rfl (isSol_ok m x hM hl hX (by assumption) (by assumption) (by assumption)) ?_
   refine kl_andT rfl rfl g10 ?_
   exact J11 _ (pc 18 rfl (pc 4 rfl (pc 14 rfl pn)))
  ·skip
   refine kl_gF rfl rfl g10 ?_
   refine kl_gF rfl rfl g10 ?_
   refine kl_gF rfl rfl g10 ?_
   refine kl_andF (isSolB m x) rfl rfl g10 ?_
   exact J11 _ (pc 18 rfl (pc 4 rfl (pc 14 rfl pn)))
 refine kl_as rfl ?_
 refine kl_nil (kq_code ?_)
 refine kc_ret ?_
 refine kq_retP rfl rfl (congrArg Value.bool ?_)
 rfl
theorem validAsg_ok {Hmd : Hp} {vmd : Value} {Hmc : Hp} {vmc : Value} {Hx : Hp} {vx : Value} (m : Mod) (x : List Int) (hmd : Ints Hmd vmd m.doms) (hmc : Cons Hmc vmc m.cons) (hx : Ints Hx vx x) : SpecP Tryz.prog 41 [.agg #[vmd, vmc], vx] [Hmd, Hmc, Hx] (.bool (decide ((x.length : Int) = (m.doms.length : Int)) && allInB x 0 5)) := by
 refine spec_of Tryz.func41 rfl rfl rfl (fun B => ?_)
 refine kc_seq (kc_region ?_)
 refine kl_box rfl rfl (fun p1 H2 f3 a4 => ?_)
 refine kl_as rfl ?_
 refine kl_nil (kq_code (kc_seq (kc_region ?_)))
 refine kl_mv rfl ?_
 refine kl_len rfl (by assumption) (fun l5 => ?_)
 refine kl_fd rfl (by assumption) (fun p6 a7 => ?_)
 refine kl_ld rfl (by assumption) ?_
 refine kl_len rfl (by assumption) (fun l8 => ?_)
 refine kl_eql rfl rfl ?_
 refine kl_mv rfl ?_
 refine kl_join 3 14 (.bool (decide ((x.length : Int) = (m.doms.length : Int)) && (allInB x (0 : Int) (5 : Int)))) (pc 4 rfl (pc 11 rfl pn)) (fun J10 => ?_) ?_
 ·rcases Bool.eq_false_or_eq_true (decide ((x.length : Int) = (m.doms.length : Int))) with g9 | g9
  ·skip
   have g9p := of_decide_eq_true g9
   refine kl_gT rfl rfl g9 ?_
   refine kl_mv rfl ?_
   refine kl_gT rfl rfl g9 ?_
   refine kl_callP rfl rfl (allInRange_ok x (0 : Int) (5 : Int) (by assumption)) ?_
   refine kl_andT rfl rfl g9 ?_
   exact J10 _ (pc 14 rfl (pc 4 rfl (pc 11 rfl pn)))
  ·skip
   refine kl_gF rfl rfl g9 ?_
   refine kl_gF rfl rfl g9 ?_
   refine kl_andF (allInB x (0 : Int) (5 : Int)) rfl rfl g9 ?_
   exact J10 _ (pc 14 rfl (pc 4 rfl (pc 11 rfl pn)))
 refine kl_as rfl ?_
 refine kl_nil (kq_code ?_)
 refine kc_ret ?_
 refine kq_retP rfl rfl (congrArg Value.bool ?_)
 rfl
end Go.Proofs.YtaidejjdmkghoaaGreat
