/- Walks of functions of the program: each returns what the plain function gives. Conditions: those that each statement names. -/
import Derived.Test.YtiilanckbocifaaTys
import Derived.Test.YtiilanckbocifaaPure
namespace Go.Proofs.Ytiilanckbocifaa
open Go
set_option linter.unusedSimpArgs false
set_option linter.unusedVariables false
theorem szIntS_ok {Ha : Hp} {va : Value} (a : List Int) (left : Int) (hl : 0 ≤ left ∧ left ≤ 1048576) (ha : Ints Ha va a) : SpecP Try.prog 43 [va, .int .i64 left] [Ha] (.int .i64 (szB left a.length)) := by
 refine spec_of Try.func43 rfl rfl rfl (fun B => ?_)
 refine kc_seq (kc_region (kl_as rfl (kl_nil (kq_code (kc_seq (kc_region (kl_mv rfl (kl_mv rfl (kl_len rfl (by assumption) (fun l1 => ?_))))))))))
 refine kl_sub rfl rfl (by omega) ?_
 refine kl_as rfl (kl_nil (kq_code (kc_seq (kc_seq (kc_region (kl_mv rfl (kl_lss rfl rfl ?_)))))))
 refine kl_nil (kq_code (kc_if rfl (fun c2 => ?_) (fun c2 => ?_)))
 ·skip
  refine kc_seq (kc_region (kl_as rfl (kl_nil (kq_code (kc_ret (kq_retP rfl rfl (congrArg (Value.int .i64) ?_)))))))
  exact szB_neg (by omega)
 ·skip
  refine kc_skipQ (kq_code (kc_seq (kc_region (kl_mv rfl (kl_as rfl (kl_nil (kq_code (kc_ret (kq_retP rfl rfl (congrArg (Value.int .i64) ?_))))))))))
  exact szB_pos rfl (by omega)
theorem szIntSS_ok {Ha : Hp} {va : Value} (a : List (List Int)) (left : Int) (hl : 0 ≤ left ∧ left ≤ 1048576) (ha : Rows Ha va a) : SpecP Try.prog 106 [va, .int .i64 left] [Ha] (.int .i64 (szB left ((a.length + rsum a : Nat) : Int))) := by
 refine spec_of Try.func106 rfl rfl rfl (fun B => ?_)
 refine kc_seq (kc_region (kl_as rfl (kl_nil (kq_code (kc_seq (kc_region (kl_mv rfl (kl_mv rfl (kl_len rfl (by assumption) (fun l1 => ?_))))))))))
 refine kl_sub rfl rfl (by omega) ?_
 refine kl_as rfl (kl_nil (kq_code (kc_seq (kc_seq (kc_region (kl_mv rfl (kl_lss rfl rfl ?_)))))))
 refine kl_nil (kq_code (kc_if rfl (fun c2 => ?_) (fun c2 => ?_)))
 ·skip
  refine kc_seq (kc_region (kl_as rfl (kl_nil (kq_code (kc_ret (kq_retP rfl rfl (congrArg (Value.int .i64) ?_)))))))
  exact szB_neg (by omega)
 ·skip
  refine kc_skipQ (kq_code (kc_seq (kc_seq (kc_region (kl_as rfl (kl_nil (kq_code (kc_block (kc_loop0 (A := Nat × Int) (fun zz => (zz.1 ≤ a.length) ∧ (0 ≤ zz.2 ∧ zz.2 = left - ((a.length + rsum (a.take zz.1) : Nat) : Int))) (fun zz => a.length - zz.1) (fun zz => [(5, .int .i64 (zz.1 : Int)), (1, .int .i64 zz.2)]) (0, (left - (a.length : Int))) (pc 0 rfl pn) (pc 5 rfl (pc 1 rfl pn)) ⟨Nat.zero_le _, ⟨by omega, by simp [rsum]⟩⟩ ?_)))))))))
  rintro ⟨k, l⟩ hJ5
  obtain ⟨hk3, hi4⟩ : (k ≤ a.length) ∧ (0 ≤ l ∧ l = left - ((a.length + rsum (a.take k) : Nat) : Int)) := hJ5
  change KC _ _ (_) _ _ ([(5, .int .i64 (k : Int)), (1, .int .i64 l)] ++ _)
  refine kc_seq (kc_seq (kc_region (kl_mv rfl (kl_mv rfl (kl_len rfl (by assumption) (fun l6 => ?_))))))
  refine kl_lss rfl rfl ?_
  refine kl_nil (kq_code (kc_if rfl (fun c7 => ?_) (fun c7 => ?_)))
  ·skip
   refine kc_skipQ (kq_code (kc_seq (kc_block (kc_seq (kc_region (kl_mv rfl (kl_mv rfl (kl_inS rfl rfl (by assumption) (by omega) (fun p8 u10 h11 a9 => ?_)))))))))
   refine kl_ld rfl (by assumption) (kl_mv rfl (kl_callP rfl rfl (szIntS_ok (a.getD k []) l (by first | assumption | omega) (by assumption)) ?_))
   refine kl_as rfl (kl_nil (kq_code (kc_seq (kc_region (kl_mv rfl (kl_lss rfl rfl ?_))))))
   refine kl_nil (kq_code (kc_if rfl (fun c12 => ?_) (fun c12 => ?_)))
   ·skip
    have hz := szB_lt c12
    refine kc_seq (kc_region (kl_as rfl (kl_nil (kq_code (kc_ret (kq_retP rfl rfl (congrArg (Value.int .i64) ?_)))))))
    have h1 := rsum_le a (k + 1); rw [rsum_step (by omega)] at h1; exact szB_neg (by omega)
   ·skip
    have hz := szB_ok c12
    refine kc_skipQ (kq_code (kc_region (kl_mv rfl (kl_inc rfl rfl (by omega) ?_))))
    refine kl_as rfl (kl_nil (kq_round0 ((k + 1), (szB l (a.getD k []).length)) (by omega) (⟨by omega, (by rw [rsum_step (by omega)]; omega)⟩) (pc 5 rfl (pc 1 rfl pn)) (pc 0 rfl pn) (List.Sublist.refl _)))
  ·skip
   refine kc_exit (kq_code (kc_seq (kc_region (kl_mv rfl (kl_as rfl (kl_nil (kq_code (kc_ret (kq_retP rfl rfl (congrArg (Value.int .i64) ?_))))))))))
   rw [List.take_of_length_le (by omega)] at *; exact szB_pos (by omega) (by omega)
theorem szConstraint_ok {Hcv : Hp} {vcv : Value} {Hca : Hp} {vca : Value} {Hcr : Hp} {vcr : Value} (c : Con) (left : Int) (hl : 0 ≤ left ∧ left ≤ 1048576) (hcv : Ints Hcv vcv c.vars) (hca : Ints Hca vca c.args) (hcr : Rows Hcr vcr c.rows) : SpecP Try.prog 77 [.agg #[.int .i64 c.kind, vcv, vca, .int .i64 c.bound, vcr], .int .i64 left] [Hcv, Hca, Hcr] (.int .i64 (szB left (conN c : Nat))) := by
 have hc : conN c = c.vars.length + c.args.length + (c.rows.length + rsum c.rows) := rfl
 refine spec_of Try.func77 rfl rfl rfl (fun B => ?_)
 refine kc_seq (kc_region (kl_box rfl rfl (fun p1 H2 f3 a4 => ?_)))
 refine kl_as rfl (kl_nil (kq_code (kc_seq (kc_region (kl_fd rfl (by assumption) (fun p5 a6 => ?_))))))
 refine kl_ld rfl (by assumption) (kl_mv rfl (kl_callP rfl rfl (szIntS_ok c.vars left (by first | assumption | omega) (by assumption)) ?_))
 refine kl_as rfl (kl_nil (kq_code (kc_seq (kc_seq (kc_region (kl_mv rfl (kl_lss rfl rfl ?_)))))))
 refine kl_nil (kq_code (kc_if rfl (fun c7 => ?_) (fun c7 => ?_)))
 ·skip
  have hzc7 := szB_lt c7
  refine kc_seq (kc_region (kl_as rfl (kl_nil (kq_code (kc_ret (kq_retP rfl rfl (congrArg (Value.int .i64) ?_)))))))
  exact szB_neg (by omega)
 ·skip
  have hzc7 := szB_ok c7
  refine kc_skipQ (kq_code (kc_seq (kc_region (kl_fd rfl (by assumption) (fun p8 a9 => ?_)))))
  refine kl_ld rfl (by assumption) (kl_mv rfl (kl_callP rfl rfl (szIntS_ok c.args (szB left c.vars.length) (by first | assumption | omega) (by assumption)) ?_))
  refine kl_as rfl (kl_nil (kq_code (kc_seq (kc_seq (kc_region (kl_mv rfl (kl_lss rfl rfl ?_)))))))
  refine kl_nil (kq_code (kc_if rfl (fun c10 => ?_) (fun c10 => ?_)))
  ·skip
   have hzc10 := szB_lt c10
   refine kc_seq (kc_region (kl_as rfl (kl_nil (kq_code (kc_ret (kq_retP rfl rfl (congrArg (Value.int .i64) ?_)))))))
   exact szB_neg (by omega)
  ·skip
   have hzc10 := szB_ok c10
   refine kc_skipQ (kq_code (kc_seq (kc_region (kl_fd rfl (by assumption) (fun p11 a12 => ?_)))))
   refine kl_ld rfl (by assumption) (kl_mv rfl (kl_callP rfl rfl (szIntSS_ok c.rows (szB (szB left c.vars.length) c.args.length) (by first | assumption | omega) (by assumption)) ?_))
   refine kl_as rfl (kl_nil (kq_code (kc_seq (kc_seq (kc_region (kl_mv rfl (kl_lss rfl rfl ?_)))))))
   refine kl_nil (kq_code (kc_if rfl (fun c13 => ?_) (fun c13 => ?_)))
   ·skip
    have hzc13 := szB_lt c13
    refine kc_seq (kc_region (kl_as rfl (kl_nil (kq_code (kc_ret (kq_retP rfl rfl (congrArg (Value.int .i64) ?_)))))))
    exact szB_neg (by omega)
   ·skip
    have hzc13 := szB_ok c13
    refine kc_skipQ (kq_code (kc_seq (kc_region (kl_mv rfl (kl_as rfl (kl_nil (kq_code (kc_ret (kq_retP rfl rfl (congrArg (Value.int .i64) ?_))))))))))
    exact szB_pos (by omega) (by omega)
theorem szConstraintS_ok {Ha : Hp} {va : Value} (a : List Con) (left : Int) (hl : 0 ≤ left ∧ left ≤ 1048576) (ha : Cons Ha va a) : SpecP Try.prog 44 [va, .int .i64 left] [Ha] (.int .i64 (szB left ((a.length + csum a : Nat) : Int))) := by
 refine spec_of Try.func44 rfl rfl rfl (fun B => ?_)
 refine kc_seq (kc_region (kl_as rfl (kl_nil (kq_code (kc_seq (kc_region (kl_mv rfl (kl_mv rfl (kl_len rfl (by assumption) (fun l1 => ?_))))))))))
 refine kl_sub rfl rfl (by omega) ?_
 refine kl_as rfl (kl_nil (kq_code (kc_seq (kc_seq (kc_region (kl_mv rfl (kl_lss rfl rfl ?_)))))))
 refine kl_nil (kq_code (kc_if rfl (fun c2 => ?_) (fun c2 => ?_)))
 ·skip
  refine kc_seq (kc_region (kl_as rfl (kl_nil (kq_code (kc_ret (kq_retP rfl rfl (congrArg (Value.int .i64) ?_)))))))
  exact szB_neg (by omega)
 ·skip
  refine kc_skipQ (kq_code (kc_seq (kc_seq (kc_region (kl_as rfl (kl_nil (kq_code (kc_block (kc_loop0 (A := Nat × Int) (fun zz => (zz.1 ≤ a.length) ∧ (0 ≤ zz.2 ∧ zz.2 = left - ((a.length + csum (a.take zz.1) : Nat) : Int))) (fun zz => a.length - zz.1) (fun zz => [(5, .int .i64 (zz.1 : Int)), (1, .int .i64 zz.2)]) (0, (left - (a.length : Int))) (pc 0 rfl pn) (pc 5 rfl (pc 1 rfl pn)) ⟨Nat.zero_le _, ⟨by omega, by simp [csum]⟩⟩ ?_)))))))))
  rintro ⟨k, l⟩ hJ5
  obtain ⟨hk3, hi4⟩ : (k ≤ a.length) ∧ (0 ≤ l ∧ l = left - ((a.length + csum (a.take k) : Nat) : Int)) := hJ5
  change KC _ _ (_) _ _ ([(5, .int .i64 (k : Int)), (1, .int .i64 l)] ++ _)
  refine kc_seq (kc_seq (kc_region (kl_mv rfl (kl_mv rfl (kl_len rfl (by assumption) (fun l6 => ?_))))))
  refine kl_lss rfl rfl ?_
  refine kl_nil (kq_code (kc_if rfl (fun c7 => ?_) (fun c7 => ?_)))
  ·skip
   refine kc_skipQ (kq_code (kc_seq (kc_block (kc_seq (kc_region (kl_mv rfl (kl_mv rfl (kl_inC rfl rfl (by assumption) (by omega) (fun p8 u10 u11 u12 h13 h14 h15 a9 => ?_)))))))))
   refine kl_ldS rfl (by assumption) rfl ?_
   refine kl_mv rfl (kl_callP rfl rfl (szConstraint_ok (a.getD k nilCon) l (by first | assumption | omega) (by assumption) (by assumption) (by assumption)) ?_)
   refine kl_as rfl (kl_nil (kq_code (kc_seq (kc_region (kl_mv rfl (kl_lss rfl rfl ?_))))))
   refine kl_nil (kq_code (kc_if rfl (fun c16 => ?_) (fun c16 => ?_)))
   ·skip
    have hz := szB_lt c16
    refine kc_seq (kc_region (kl_as rfl (kl_nil (kq_code (kc_ret (kq_retP rfl rfl (congrArg (Value.int .i64) ?_)))))))
    have h1 := csum_le a (k + 1); rw [csum_step (by omega)] at h1; exact szB_neg (by omega)
   ·skip
    have hz := szB_ok c16
    refine kc_skipQ (kq_code (kc_region (kl_mv rfl (kl_inc rfl rfl (by omega) ?_))))
    refine kl_as rfl (kl_nil (kq_round0 ((k + 1), (szB l (conN (a.getD k nilCon) : Nat))) (by omega) (⟨by omega, (by rw [csum_step (by omega)]; omega)⟩) (pc 5 rfl (pc 1 rfl pn)) (pc 0 rfl pn) (List.Sublist.refl _)))
  ·skip
   refine kc_exit (kq_code (kc_seq (kc_region (kl_mv rfl (kl_as rfl (kl_nil (kq_code (kc_ret (kq_retP rfl rfl (congrArg (Value.int .i64) ?_))))))))))
   rw [List.take_of_length_le (by omega)] at *; exact szB_pos (by omega) (by omega)
theorem szModel_ok {Hmd : Hp} {vmd : Value} {Hmc : Hp} {vmc : Value} (m : Mod) (left : Int) (hl : 0 ≤ left ∧ left ≤ 1048576) (hmd : Ints Hmd vmd m.doms) (hmc : Cons Hmc vmc m.cons) : SpecP Try.prog 12 [.agg #[vmd, vmc], .int .i64 left] [Hmd, Hmc] (.int .i64 (szB left (modN m : Nat))) := by
 have hc : modN m = m.doms.length + (m.cons.length + csum m.cons) := rfl
 refine spec_of Try.func12 rfl rfl rfl (fun B => ?_)
 refine kc_seq (kc_region (kl_box rfl rfl (fun p1 H2 f3 a4 => ?_)))
 refine kl_as rfl (kl_nil (kq_code (kc_seq (kc_region (kl_fd rfl (by assumption) (fun p5 a6 => ?_))))))
 refine kl_ld rfl (by assumption) (kl_mv rfl (kl_callP rfl rfl (szIntS_ok m.doms left (by first | assumption | omega) (by assumption)) ?_))
 refine kl_as rfl (kl_nil (kq_code (kc_seq (kc_seq (kc_region (kl_mv rfl (kl_lss rfl rfl ?_)))))))
 refine kl_nil (kq_code (kc_if rfl (fun c7 => ?_) (fun c7 => ?_)))
 ·skip
  have hzc7 := szB_lt c7
  refine kc_seq (kc_region (kl_as rfl (kl_nil (kq_code (kc_ret (kq_retP rfl rfl (congrArg (Value.int .i64) ?_)))))))
  exact szB_neg (by omega)
 ·skip
  have hzc7 := szB_ok c7
  refine kc_skipQ (kq_code (kc_seq (kc_region (kl_fd rfl (by assumption) (fun p8 a9 => ?_)))))
  refine kl_ld rfl (by assumption) (kl_mv rfl (kl_callP rfl rfl (szConstraintS_ok m.cons (szB left m.doms.length) (by first | assumption | omega) (by assumption)) ?_))
  refine kl_as rfl (kl_nil (kq_code (kc_seq (kc_seq (kc_region (kl_mv rfl (kl_lss rfl rfl ?_)))))))
  refine kl_nil (kq_code (kc_if rfl (fun c10 => ?_) (fun c10 => ?_)))
  ·skip
   have hzc10 := szB_lt c10
   refine kc_seq (kc_region (kl_as rfl (kl_nil (kq_code (kc_ret (kq_retP rfl rfl (congrArg (Value.int .i64) ?_)))))))
   exact szB_neg (by omega)
  ·skip
   have hzc10 := szB_ok c10
   refine kc_skipQ (kq_code (kc_seq (kc_region (kl_mv rfl (kl_as rfl (kl_nil (kq_code (kc_ret (kq_retP rfl rfl (congrArg (Value.int .i64) ?_))))))))))
   exact szB_pos (by omega) (by omega)
end Go.Proofs.Ytiilanckbocifaa
