/- Walks of functions of the program: each returns what the plain function gives. Conditions: those that each statement names. -/
import Derived.Test.YtiilanckbocifaaGreatWvalid
import Derived.Test.YtiilanckbocifaaGreatWfix
import Derived.Test.YtiilanckbocifaaGreatWsat
import Derived.Test.YtiilanckbocifaaGreatPureJ
import Derived.Test.YtiilanckbocifaaGreatPureV
namespace Go.Proofs.YtiilanckbocifaaGreat
open Go
set_option linter.unusedSimpArgs false
set_option linter.unusedVariables false
theorem clipR_ok {Hxs : Hp} {vxs : Value} (xs : List (List Int)) (hxs : Rows Hxs vxs xs) : Spec Tryz.prog 57 [vxs] [Hxs] (fun _ vq => Rows Hxs vq xs ∧ ClipV vxs vq xs.length) := by
 refine spec_of Tryz.func57 rfl rfl rfl (fun B => ?_)
 refine kc_seq (kc_region (kl_as rfl (kl_nil (kq_code (kc_seq (kc_region (kl_mv rfl (kl_mv rfl (kl_len rfl (by assumption) (fun l1 => ?_))))))))))
 refine kl_mv rfl (kl_len rfl (by assumption) (fun l2 => ?_))
 refine kl_clipV rfl rfl rfl (by assumption) (by omega) (fun u3 h4 h4v => ?_)
 refine kl_as rfl (kl_nil (kq_code (kc_ret ?_)))
 exact kq_ret rfl rfl noHp (fr_no _) ⟨by assumption, by assumption⟩
theorem solveAll_ok {Hmd : Hp} {vmd : Value} {Hmc : Hp} {vmc : Value} (m : Mod) (hmd : Ints Hmd vmd m.doms) (hmc : Cons Hmc vmc m.cons) : Spec Tryz.prog 16 [.agg #[vmd, vmc], .int .i64 (20 : Int)] [Hmd, Hmc] (fun Hq vq => Rows Hq vq (solL m)) := by
 refine spec_of Tryz.func16 rfl rfl rfl (fun B => ?_)
 refine kc_seq (kc_region (kl_box rfl rfl (fun p1 H2 f3 a4 => ?_)))
 refine kl_as rfl (kl_nil (kq_code (kc_seq (kc_seq (kc_region (kl_ldS rfl (by assumption) rfl ?_))))))
 refine kl_callP rfl rfl (validMod_ok m (by assumption) (by assumption)) ?_
 refine kl_not rfl (kl_mv rfl (kl_join 4 13 (.bool (!(validModB m) || !(withinB (20 : Int) (0 : Int) (20 : Int)))) (pc 1 rfl (pc 2 rfl (pc 4 rfl (pc 9 rfl pn)))) (fun J6 => ?_) ?_))
 ·rcases Bool.eq_false_or_eq_true (!(validModB m)) with g5 | g5
  ·skip
   refine kl_gF rfl rfl g5 (kl_gF rfl rfl g5 (kl_gF rfl rfl g5 (kl_orT (!(withinB (20 : Int) (0 : Int) (20 : Int))) rfl rfl g5 ?_)))
   exact J6 _ (pc 13 rfl (pc 1 rfl (pc 2 rfl (pc 4 rfl (pc 9 rfl pn)))))
  ·skip
   have g5p := g5
   try simp only [Bool.not_eq_true', Bool.not_eq_false', decide_eq_true_eq, decide_eq_false_iff_not, Bool.and_eq_true, Bool.or_eq_false_iff, withinB_iff] at g5p
   refine kl_gT rfl rfl g5 (kl_mv rfl (kl_gT rfl rfl g5 (kl_callP rfl rfl (within_ok (20 : Int) (0 : Int) (20 : Int)) ?_)))
   refine kl_gT rfl rfl g5 (kl_not rfl (kl_orF rfl rfl g5 ?_))
   exact J6 _ (pc 13 rfl (pc 1 rfl (pc 2 rfl (pc 4 rfl (pc 9 rfl pn)))))
 refine kl_nil (kq_code (kc_cond rfl (fun c7 => ?_) (fun c7 => ?_)))
 ·skip
  have c7r := c7
  try simp only [smpC, decide_eq_true_eq, decide_eq_false_iff_not] at c7
  refine kc_seq (kc_region (kl_as rfl (kl_nil (kq_code (kc_ret ?_)))))
  exact kq_ret rfl rfl noHp (fr_no _) (by rw [solL_nw (by assumption)]; exact Sl.nil)
 ·skip
  have c7r := c7
  try simp only [smpC, decide_eq_true_eq, decide_eq_false_iff_not] at c7
  have hv : validModB m = true := (by revert c7r; cases validModB m <;> simp)
  have hM : MOk m := ⟨hv⟩
  have hfw := sols_few hM
  refine kc_skipQ (kq_code (kc_seq (kc_region (kl_ldS rfl (by assumption) rfl ?_))))
  refine kl_call rfl rfl (solutions_ok m hM (by assumption) (by assumption)) (fun v8 H9 f10 h11 => ?_)
  refine kl_as rfl (kl_nil (kq_code (kc_seq (kc_region (kl_mv rfl (kl_mv rfl (kl_mv rfl (kl_len rfl (by assumption) (fun l12 => ?_)))))))))
  refine kl_min rfl rfl ?_
  have e15 : (min (20 : Int) ((sols m).length : Int)) = (((Int.toNat (min (20 : Int) ((sols m).length : Int))) : Nat) : Int) := by omega
  refine kl_slTake (i := (Int.toNat (min (20 : Int) ((sols m).length : Int)))) rfl (by rw [← e15]; rfl) (by assumption) (by omega) (fun u13 h14 => ?_)
  refine kl_call rfl rfl (clipR_ok ((sols m).take (Int.toNat (min (20 : Int) ((sols m).length : Int)))) (by assumption)) (fun v16 H17 f18 h19 => ?_)
  obtain ⟨h19, h20⟩ := h19
  refine kl_as rfl (kl_nil (kq_code (kc_ret ?_)))
  have e9 : ((sols m).take (Int.toNat (min (20 : Int) ((sols m).length : Int)))) = solL m := by exact solL_yes hv
  exact kq_ret rfl rfl H9 f10 (e9 ▸ (by assumption : Rows _ _ ((sols m).take (Int.toNat (min (20 : Int) ((sols m).length : Int))))))
end Go.Proofs.YtiilanckbocifaaGreat
