/- Walks of functions of the program: each returns what the plain function gives. Conditions: those that each statement names. -/
import Derived.Test.YtndggikpobghkaaGreatTys
import Derived.Test.YtndggikpobghkaaGreatPureK
namespace Go.Proofs.YtndggikpobghkaaGreat
open Go
set_option linter.unusedSimpArgs false
set_option linter.unusedVariables false
theorem inRangeL_ok {Hx : Hp} {vx : Value} (x : List Int) (hx : Ints Hx vx x) : SpecP Tryz.prog 10 [vx] [Hx] (.bool (allInB x 0 5)) := by
 refine spec_of Tryz.func10 rfl rfl rfl (fun B => ?_)
 refine kc_seq (kc_region ?_)
 refine kl_as rfl ?_
 refine kl_nil (kq_code ?_)
 refine kc_seq ?_
 refine kc_seq (kc_region ?_)
 refine kl_as rfl ?_
 refine kl_nil (kq_code ?_)
 refine kc_block ?_
 refine kc_loop0 (A := Nat) (fun zz => (zz ≤ x.length) ∧ (allInB (x.take zz) 0 5 = true)) (fun zz => x.length - zz) (fun zz => [(3, .int .i64 (zz : Int))]) (0) (pc 0 rfl pn) (pc 3 rfl pn) ⟨Nat.zero_le _, rfl⟩ ?_
 rintro k hJ3
 obtain ⟨hk1, hi2⟩ : (k ≤ x.length) ∧ (allInB (x.take k) 0 5 = true) := hJ3
 change KC _ _ (_) _ _ ([(3, .int .i64 (k : Int))] ++ _)
 refine kc_seq ?_
 refine kc_seq (kc_region ?_)
 refine kl_mv rfl ?_
 refine kl_mv rfl ?_
 refine kl_len rfl (by assumption) (fun l4 => ?_)
 refine kl_lss rfl rfl ?_
 refine kl_nil (kq_code ?_)
 refine kc_if rfl (fun c5 => ?_) (fun c5 => ?_)
 ·skip
  refine kc_skipQ ?_
  refine kq_code ?_
  refine kc_seq ?_
  refine kc_block ?_
  refine kc_seq (kc_region ?_)
  refine kl_mv rfl ?_
  refine kl_mv rfl ?_
  refine kl_inI rfl rfl (by assumption) (by omega) (fun p6 a7 => ?_)
  refine kl_ld rfl (by assumption) ?_
  refine kl_lss rfl rfl ?_
  refine kl_mv rfl ?_
  refine kl_join 6 21 (.bool (decide ((x.getD k 0) < (0 : Int)) || decide ((5 : Int) < (x.getD k 0)))) (pc 0 rfl (pc 3 rfl (pc 4 rfl (pc 5 rfl (pc 6 rfl (pc 7 rfl (pc 10 rfl (pc 11 rfl (pc 12 rfl (pc 13 rfl (pc 14 rfl (pc 15 rfl pn)))))))))))) (fun J11 => ?_) ?_
  ·rcases Bool.eq_false_or_eq_true (decide ((x.getD k 0) < (0 : Int))) with g8 | g8
   ·skip
    refine kl_gF rfl rfl g8 ?_
    refine kl_gF rfl rfl g8 ?_
    refine kl_gF rfl rfl g8 ?_
    refine kl_gF rfl rfl g8 ?_
    refine kl_gF rfl rfl g8 ?_
    refine kl_orT (decide ((5 : Int) < (x.getD k 0))) rfl rfl g8 ?_
    exact J11 _ (pc 21 rfl (pc 0 rfl (pc 3 rfl (pc 4 rfl (pc 5 rfl (pc 6 rfl (pc 7 rfl (pc 10 rfl (pc 11 rfl (pc 12 rfl (pc 13 rfl (pc 14 rfl (pc 15 rfl pn)))))))))))))
   ·skip
    have g8p := of_decide_eq_false g8
    refine kl_gT rfl rfl g8 ?_
    refine kl_mv rfl ?_
    refine kl_gT rfl rfl g8 ?_
    refine kl_mv rfl ?_
    refine kl_gT rfl rfl g8 ?_
    refine kl_inI rfl rfl (by assumption) (by omega) (fun p9 a10 => ?_)
    refine kl_gT rfl rfl g8 ?_
    refine kl_ld rfl (by assumption) ?_
    refine kl_gT rfl rfl g8 ?_
    refine kl_gtr rfl rfl ?_
    refine kl_orF rfl rfl g8 ?_
    exact J11 _ (pc 21 rfl (pc 0 rfl (pc 3 rfl (pc 4 rfl (pc 5 rfl (pc 6 rfl (pc 7 rfl (pc 10 rfl (pc 11 rfl (pc 12 rfl (pc 13 rfl (pc 14 rfl (pc 15 rfl pn)))))))))))))
  refine kl_nil (kq_code ?_)
  refine kc_cond rfl (fun c12 => ?_) (fun c12 => ?_)
  ·skip
   have c12r := c12
   try simp only [Bool.not_eq_true', Bool.not_eq_false', Bool.not_true, Bool.not_false, decide_eq_true_eq, decide_eq_false_iff_not, Bool.and_eq_true, Bool.or_eq_false_iff] at c12
   refine kc_seq (kc_region ?_)
   refine kl_as rfl ?_
   refine kl_nil (kq_code ?_)
   refine kc_ret ?_
   refine kq_retP rfl rfl (congrArg Value.bool ?_)
   exact inR_no (k := k) (by omega) (by assumption)
  ·skip
   have c12r := c12
   try simp only [Bool.not_eq_true', Bool.not_eq_false', Bool.not_true, Bool.not_false, decide_eq_true_eq, decide_eq_false_iff_not, Bool.and_eq_true, Bool.or_eq_false_iff] at c12
   refine kc_skipQ ?_
   refine kq_code ?_
   refine kc_region ?_
   refine kl_mv rfl ?_
   refine kl_inc rfl rfl (by omega) ?_
   refine kl_as rfl ?_
   refine kl_nil ?_
   refine kq_round0 ((k + 1)) (by omega) (⟨by omega, inR_step (by omega) hi2 (by assumption)⟩) (pc 3 rfl pn) (pc 0 rfl pn) (List.Sublist.refl _)
 ·skip
  refine kc_exit ?_
  refine kq_code ?_
  refine kc_seq (kc_region ?_)
  refine kl_as rfl ?_
  refine kl_nil (kq_code ?_)
  refine kc_ret ?_
  refine kq_retP rfl rfl (congrArg Value.bool ?_)
  exact inR_yes (by omega) hi2
end Go.Proofs.YtndggikpobghkaaGreat
