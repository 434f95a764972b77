/- Walks of functions of the program: each returns what the plain function gives. Conditions: those that each statement names. -/
import Derived.Test.YtiilanckbocifaaWvalid
import Derived.Test.YtiilanckbocifaaPure
namespace Go.Proofs.Ytiilanckbocifaa
open Go
set_option linter.unusedSimpArgs false
set_option linter.unusedVariables false
theorem varsIn_ok {Hmd : Hp} {vmd : Value} {Hmc : Hp} {vmc : Value} {Hvars : Hp} {vvars : Value} (m : Mod) (vars : List Int) (hmd : Ints Hmd vmd m.doms) (hmc : Cons Hmc vmc m.cons) (hvars : Ints Hvars vvars vars) : SpecP Try.prog 57 [.agg #[vmd, vmc], vvars] [Hmd, Hmc, Hvars] (.bool (varsInB m vars)) := by
 refine spec_of Try.func57 rfl rfl rfl (fun B => ?_)
 refine kc_seq (kc_region (kl_box rfl rfl (fun p1 H2 f3 a4 => ?_)))
 refine kl_as rfl (kl_nil (kq_code (kc_seq (kc_region (kl_ldS rfl (by assumption) rfl ?_)))))
 refine kl_callP rfl rfl (validMod_ok m (by assumption) (by assumption)) ?_
 refine kl_mv rfl (kl_join 7 14 (.bool ((validModB m) && (allInB vars (0 : Int) ((m.doms.length : Int) - (1 : Int))))) (pc 4 rfl (pc 7 rfl pn)) (fun J9 => ?_) ?_)
 ·rcases Bool.eq_false_or_eq_true (validModB m) with g5 | g5
  ·skip
   have g5p := g5
   try simp only [Bool.not_eq_true', Bool.not_eq_false', decide_eq_true_eq, decide_eq_false_iff_not, Bool.and_eq_true, Bool.or_eq_false_iff, withinB_iff] at g5p
   refine kl_gT rfl rfl g5 (kl_mv rfl (kl_gT rfl rfl g5 (kl_fd rfl (by assumption) (fun p6 a7 => ?_))))
   refine kl_gT rfl rfl g5 (kl_ld rfl (by assumption) (kl_gT rfl rfl g5 (kl_len rfl (by assumption) (fun l8 => ?_))))
   refine kl_gT rfl rfl g5 (kl_sub rfl rfl (by omega) ?_)
   refine kl_gT rfl rfl g5 (kl_callP rfl rfl (allIn_ok vars (0 : Int) ((m.doms.length : Int) - (1 : Int)) (by assumption)) ?_)
   refine kl_andT rfl rfl g5 ?_
   exact J9 _ (pc 14 rfl (pc 4 rfl (pc 7 rfl pn)))
  ·skip
   refine kl_gF rfl rfl g5 (kl_gF rfl rfl g5 (kl_gF rfl rfl g5 (kl_gF rfl rfl g5 (kl_gF rfl rfl g5 (kl_gF rfl rfl g5 (kl_andF (allInB vars (0 : Int) ((m.doms.length : Int) - (1 : Int))) rfl rfl g5 ?_))))))
   exact J9 _ (pc 14 rfl (pc 4 rfl (pc 7 rfl pn)))
 refine kl_as rfl (kl_nil (kq_code (kc_ret (kq_retP rfl rfl (congrArg Value.bool ?_)))))
 rfl
theorem variableSet_ok {Hmd : Hp} {vmd : Value} {Hmc : Hp} {vmc : Value} {Hvars : Hp} {vvars : Value} (m : Mod) (vars : List Int) (hmd : Ints Hmd vmd m.doms) (hmc : Cons Hmc vmc m.cons) (hvars : Ints Hvars vvars vars) : SpecP Try.prog 25 [.agg #[vmd, vmc], vvars] [Hmd, Hmc, Hvars] (.bool (varSetI m vars)) := by
 refine spec_of Try.func25 rfl rfl rfl (fun B => ?_)
 refine kc_seq (kc_region (kl_box rfl rfl (fun p1 H2 f3 a4 => ?_)))
 refine kl_as rfl (kl_nil (kq_code (kc_seq (kc_seq (kc_region (kl_as rfl (kl_nil (kq_code (kc_block (kc_loop0 (A := Nat) (fun zz => (1 ≤ zz) ∧ ((List.range zz).all (ascAt vars) = true)) (fun zz => vars.length - zz) (fun zz => [(5, .int .i64 (zz : Int))]) (1) (pc 1 rfl (pc 2 rfl pn)) (pc 5 rfl pn) ⟨Nat.le_refl 1, by simp [ascAt]⟩ ?_))))))))))
 rintro k hJ7
 obtain ⟨hk5, hi6⟩ : (1 ≤ k) ∧ ((List.range k).all (ascAt vars) = true) := hJ7
 change KC _ _ (_) _ _ ([(5, .int .i64 (k : Int))] ++ _)
 refine kc_seq (kc_seq (kc_region (kl_mv rfl (kl_mv rfl (kl_len rfl (by assumption) (fun l8 => ?_))))))
 refine kl_lss rfl rfl ?_
 refine kl_nil (kq_code (kc_if rfl (fun c9 => ?_) (fun c9 => ?_)))
 ·skip
  refine kc_skipQ (kq_code (kc_seq (kc_block (kc_seq (kc_draw 10 [true, true, true, true, true, true, true, true, true, true] (by kernel_rfl) (by kernel_rfl) ?_)))))
  refine kl_mv rfl (kl_mv rfl (kl_sub rfl rfl (by omega) ?_))
  refine kl_ixI rfl rfl (by assumption) (by omega) (by omega) (fun p10 a11 => ?_)
  refine kl_ld rfl (by assumption) (kl_mv rfl (kl_mv rfl (kl_inI rfl rfl (by assumption) (by omega) (fun p12 a13 => ?_))))
  refine kl_ld rfl (by assumption) (kl_geq rfl rfl ?_)
  refine kl_nil (kq_code (kc_if rfl (fun c14 => ?_) (fun c14 => ?_)))
  ·skip
   refine kc_seq (kc_region (kl_as rfl (kl_nil (kq_code (kc_ret (kq_retP rfl rfl (congrArg Value.bool ?_)))))))
   exact asc_no (k := k) (by omega) (by omega) (by assumption)
  ·skip
   refine kc_skipQ (kq_code (kc_region (kl_mv rfl (kl_inc rfl rfl (by omega) ?_))))
   refine kl_as rfl (kl_nil (kq_round0 ((k + 1)) (by omega) (⟨by omega, asc_step hi6 (by assumption)⟩) (pc 5 rfl pn) (pc 1 rfl (pc 2 rfl pn)) (List.Sublist.refl _)))
 ·skip
  refine kc_exit (kq_code (kc_seq (kc_region (kl_ldS rfl (by assumption) rfl ?_))))
  refine kl_mv rfl (kl_callP rfl rfl (varsIn_ok m vars (by assumption) (by assumption) (by assumption)) ?_)
  refine kl_as rfl (kl_nil (kq_code (kc_ret (kq_retP rfl rfl (congrArg Value.bool ?_)))))
  exact asc_yes (k := k) (by omega) (by assumption)
end Go.Proofs.Ytiilanckbocifaa
