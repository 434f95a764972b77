/- Walks of functions of the program: each returns what the plain function gives. Conditions: those that each statement names. -/
import Derived.Test.YtiilanckbocifaaGreatWlit
import Derived.Test.YtiilanckbocifaaGreatWslit
import Derived.Test.YtiilanckbocifaaGreatWfix
import Derived.Test.YtiilanckbocifaaGreatWsolve
namespace Go.Proofs.YtiilanckbocifaaGreat
open Go
set_option linter.unusedSimpArgs false
set_option linter.unusedVariables false
theorem cwImp_ok {Hmd : Hp} {vmd : Value} {Hmc : Hp} {vmc : Value} {Hc : Hp} {vc : Value} (m : Mod) (c : List Lit) (hmd : Ints Hmd vmd m.doms) (hmc : Cons Hmc vmc m.cons) (hc : Lits Hc vc c) : SpecP Tryz.prog 18 [.agg #[vmd, vmc], vc] [Hmd, Hmc, Hc] (.int .i64 (cwI m c)) := by
 refine spec_of Tryz.func18 rfl rfl rfl (fun B => ?_)
 refine kc_seq (kc_region (kl_box rfl rfl (fun p1 H2 f3 a4 => ?_)))
 refine kl_as rfl (kl_nil (kq_code (kc_seq (kc_seq (kc_region (kl_ldS rfl (by assumption) rfl ?_))))))
 refine kl_mv rfl (kl_callP rfl rfl (litsOk_ok m c (by assumption) (by assumption) (by assumption)) ?_)
 refine kl_not rfl (kl_nil (kq_code (kc_cond rfl (fun c5 => ?_) (fun c5 => ?_))))
 ·skip
  have c5r := c5
  try simp only [smpC, decide_eq_true_eq, decide_eq_false_iff_not] at c5
  refine kc_seq (kc_region (kl_as rfl (kl_nil (kq_code (kc_ret (kq_retP rfl rfl (congrArg (Value.int .i64) ?_)))))))
  exact cw_no (by assumption)
 ·skip
  have c5r := c5
  try simp only [smpC, decide_eq_true_eq, decide_eq_false_iff_not] at c5
  have hcc := c5r
  have hg := lits_okN hcc
  have hM := hg.hM
  have hfw := sols_few hM
  refine kc_skipQ (kq_code (kc_seq (kc_region (kl_as rfl (kl_nil (kq_code (kc_seq (kc_seq (kc_region (kl_ldS rfl (by assumption) rfl ?_))))))))))
  refine kl_call rfl rfl (solutions_ok m hM (by assumption) (by assumption)) (fun v6 H7 f8 h9 => ?_)
  refine kl_len rfl (by assumption) (fun l10 => ?_)
  refine kl_mv rfl (kl_nil (kq_code (kc_block (kc_loop0 (A := Nat × Int) (fun zz => (zz.1 ≤ (sols m).length) ∧ (zz.2 = cwTo c (sols m) zz.1)) (fun zz => (sols m).length - zz.1) (fun zz => [(15, .int .i64 (zz.1 : Int)), (5, .int .i64 zz.2)]) (0, (0 : Int)) (pc 1 rfl (pc 4 rfl (pc 13 rfl (pc 14 rfl pn)))) (pc 15 rfl (pc 5 rfl pn)) ⟨Nat.zero_le _, rfl⟩ ?_))))
  rintro ⟨k, z⟩ hJ13
  obtain ⟨hk11, hi12⟩ : (k ≤ (sols m).length) ∧ (z = cwTo c (sols m) k) := hJ13
  change KC _ _ (_) _ _ ([(15, .int .i64 (k : Int)), (5, .int .i64 z)] ++ _)
  have hzl := cwTo_le c (sols m) k
  refine kc_seq (kc_region (kl_lss rfl rfl ?_))
  refine kl_nil (kq_code (kc_seq (kc_if rfl (fun c14 => ?_) (fun c14 => ?_))))
  ·skip
   refine kc_skipQ (kq_code (kc_seq (kc_block (kc_seq (kc_region (kl_inS rfl rfl (by assumption) (by omega) (fun p15 u17 h18 a16 => ?_)))))))
   refine kl_ld rfl (by assumption) (kl_as rfl (kl_nil (kq_code (kc_seq (kc_region (kl_mv rfl (kl_mv rfl (kl_callP rfl rfl (allTrueI_ok c ((sols m).getD k []) (by rw [sols_len (getD_mem (d := []) (by omega : k < (sols m).length))]; exact hg.h) (sols_vals (getD_mem (d := []) (by omega : k < (sols m).length))) (by assumption) (by assumption)) ?_))))))))
   refine kl_nil (kq_code (kc_cond rfl (fun c19 => ?_) (fun c19 => ?_)))
   ·skip
    have c19r := c19
    try simp only [smpC, decide_eq_true_eq, decide_eq_false_iff_not] at c19
    refine kc_region (kl_mv rfl (kl_add rfl rfl (by omega) ?_))
    refine kl_as rfl (kl_nil (kq_code (kc_region (kl_inc rfl rfl (by omega) ?_))))
    refine kl_mv rfl (kl_nil (kq_round0 ((k + 1), (z + (1 : Int))) (by omega) (⟨by omega, (by first | exact cwTo_T hi12 (by omega) (by assumption) | exact cwTo_F hi12 (by omega) (by assumption))⟩) (pc 15 rfl (pc 5 rfl pn)) (pc 1 rfl (pc 4 rfl (pc 13 rfl (pc 14 rfl pn)))) (List.Sublist.refl _)))
   ·skip
    have c19r := c19
    try simp only [smpC, decide_eq_true_eq, decide_eq_false_iff_not] at c19
    refine kc_skipQ (kq_code (kc_region (kl_inc rfl rfl (by omega) ?_)))
    refine kl_mv rfl (kl_nil (kq_round0 ((k + 1), z) (by omega) (⟨by omega, (by first | exact cwTo_T hi12 (by omega) (by assumption) | exact cwTo_F hi12 (by omega) (by assumption))⟩) (pc 15 rfl (pc 5 rfl pn)) (pc 1 rfl (pc 4 rfl (pc 13 rfl (pc 14 rfl pn)))) (List.Sublist.refl _)))
  ·skip
   refine kc_exit (kq_code (kc_seq (kc_region (kl_mv rfl (kl_as rfl (kl_nil (kq_code (kc_ret (kq_retP rfl rfl (congrArg (Value.int .i64) ?_))))))))))
   exact cw_yes (by assumption) hi12 (by omega)
end Go.Proofs.YtiilanckbocifaaGreat
