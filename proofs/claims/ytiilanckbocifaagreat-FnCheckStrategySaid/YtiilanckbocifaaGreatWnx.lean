/- Walks of functions of the program: each returns what the plain function gives. Conditions: those that each statement names. -/
import Derived.Test.YtiilanckbocifaaGreatWfilt
import Derived.Test.YtiilanckbocifaaGreatPureZ
namespace Go.Proofs.YtiilanckbocifaaGreat
open Go
set_option linter.unusedSimpArgs false
set_option linter.unusedVariables false
theorem isNaN_ok (x : Int) : SpecP Tryz.prog 116 [.int .i64 x] [] (.bool false) := by
 refine spec_of Tryz.func116 rfl rfl rfl (fun B => ?_)
 refine kc_seq (kc_region (kl_as rfl (kl_nil (kq_code (kc_seq (kc_region (kl_mv rfl (kl_mv rfl (kl_neq rfl rfl ?_)))))))))
 refine kl_as rfl (kl_nil (kq_code (kc_ret (kq_retP rfl rfl (congrArg Value.bool ?_)))))
 simp
theorem cmpInt_ok (a : Int) (b : Int) : SpecP Tryz.prog 74 [.int .i64 a, .int .i64 b] [] (.int .i64 (cmpI a b)) := by
 refine spec_of Tryz.func74 rfl rfl rfl (fun B => ?_)
 refine kc_seq (kc_region (kl_as rfl (kl_nil (kq_code (kc_seq (kc_region (kl_mv rfl (kl_callP rfl rfl (isNaN_ok a) ?_))))))))
 refine kl_as rfl (kl_nil (kq_code (kc_seq (kc_region (kl_mv rfl (kl_callP rfl rfl (isNaN_ok b) ?_))))))
 refine kl_as rfl (kl_nil (kq_code (kc_seq (kc_seq (kc_region (kl_mv rfl (kl_nil (kq_code (kc_cond rfl (fun c1 => ?_) (fun c1 => ?_))))))))))
 ·skip
  have c1r := c1
  try simp only [smpC, decide_eq_true_eq, decide_eq_false_iff_not] at c1
  exact absurd c1r (by decide)
 ·skip
  have c1r := c1
  try simp only [smpC, decide_eq_true_eq, decide_eq_false_iff_not] at c1
  refine kc_skipQ (kq_code (kc_seq (kc_seq (kc_region (kl_mv rfl (kl_nil (kq_code (kc_cond rfl (fun c2 => ?_) (fun c2 => ?_)))))))))
  ·skip
   have c2r := c2
   try simp only [smpC, decide_eq_true_eq, decide_eq_false_iff_not] at c2
   exact absurd c2r (by decide)
  ·skip
   have c2r := c2
   try simp only [smpC, decide_eq_true_eq, decide_eq_false_iff_not] at c2
   refine kc_skipQ (kq_code (kc_seq (kc_seq (kc_region (kl_mv rfl (kl_mv rfl (kl_lss rfl rfl ?_)))))))
   refine kl_nil (kq_code (kc_if rfl (fun c3 => ?_) (fun c3 => ?_)))
   ·skip
    refine kc_seq (kc_region (kl_as rfl (kl_nil (kq_code (kc_ret (kq_retP rfl rfl (congrArg (Value.int .i64) ?_)))))))
    exact cmpI_1 (by assumption)
   ·skip
    refine kc_skipQ (kq_code (kc_seq (kc_seq (kc_region (kl_mv rfl (kl_mv rfl (kl_gtr rfl rfl ?_)))))))
    refine kl_nil (kq_code (kc_if rfl (fun c4 => ?_) (fun c4 => ?_)))
    ·skip
     refine kc_seq (kc_region (kl_as rfl (kl_nil (kq_code (kc_ret (kq_retP rfl rfl (congrArg (Value.int .i64) ?_)))))))
     exact cmpI_2 (by assumption) (by assumption)
    ·skip
     refine kc_skipQ (kq_code (kc_seq (kc_region (kl_as rfl (kl_nil (kq_code (kc_ret (kq_retP rfl rfl (congrArg (Value.int .i64) ?_)))))))))
     exact cmpI_3 (by assumption) (by assumption)
theorem cmpL_ok {Ha : Hp} {va : Value} {Hb : Hp} {vb : Value} (a : List Int) (b : List Int) (hl : a.length = b.length) (ha : Ints Ha va a) (hb : Ints Hb vb b) : SpecP Tryz.prog 31 [va, vb] [Ha, Hb] (.int .i64 (lexC a b)) := by
 refine spec_of Tryz.func31 rfl rfl rfl (fun B => ?_)
 refine kc_seq (kc_region (kl_as rfl (kl_nil (kq_code (kc_seq (kc_seq (kc_region (kl_mv rfl (kl_len rfl (by assumption) (fun l1 => ?_))))))))))
 refine kl_mv rfl (kl_nil (kq_code (kc_block (kc_loop0 (A := Nat) (fun zz => (zz ≤ a.length) ∧ (a.take zz = b.take zz)) (fun zz => a.length - zz) (fun zz => [(11, .int .i64 (zz : Int))]) (0) (pc 0 rfl (pc 1 rfl (pc 9 rfl (pc 10 rfl pn)))) (pc 11 rfl pn) ⟨Nat.zero_le _, rfl⟩ ?_))))
 rintro k hJ4
 obtain ⟨hk2, hi3⟩ : (k ≤ a.length) ∧ (a.take k = b.take k) := hJ4
 change KC _ _ (_) _ _ ([(11, .int .i64 (k : Int))] ++ _)
 refine kc_seq (kc_region (kl_lss rfl rfl ?_))
 refine kl_nil (kq_code (kc_seq (kc_if rfl (fun c5 => ?_) (fun c5 => ?_))))
 ·skip
  refine kc_skipQ (kq_code (kc_seq (kc_block (kc_seq (kc_region (kl_mv rfl (kl_inI rfl rfl (by assumption) (by omega) (fun p6 a7 => ?_))))))))
  refine kl_ld rfl (by assumption) (kl_as rfl (kl_as rfl (kl_nil (kq_code (kc_seq (kc_seq (kc_region (kl_mv rfl (kl_mv rfl (kl_len rfl (by assumption) (fun l8 => ?_)))))))))))
  refine kl_geq rfl rfl ?_
  refine kl_nil (kq_code (kc_if rfl (fun c9 => ?_) (fun c9 => ?_)))
  ·skip
   exfalso; omega
  ·skip
   refine kc_skipQ (kq_code (kc_seq (kc_region (kl_mv rfl (kl_mv rfl (kl_inI rfl rfl (by assumption) (by omega) (fun p10 a11 => ?_)))))))
   refine kl_ld rfl (by assumption) (kl_as rfl (kl_nil (kq_code (kc_seq (kc_region (kl_mv rfl (kl_mv rfl (kl_callP rfl rfl (cmpInt_ok (a.getD k 0) (b.getD k 0)) ?_))))))))
   refine kl_as rfl (kl_nil (kq_code (kc_seq (kc_region (kl_mv rfl (kl_neq rfl rfl ?_))))))
   refine kl_nil (kq_code (kc_if rfl (fun c12 => ?_) (fun c12 => ?_)))
   ·skip
    refine kc_seq (kc_region (kl_mv rfl (kl_as rfl (kl_nil (kq_code (kc_ret (kq_retP rfl rfl (congrArg (Value.int .i64) ?_))))))))
    exact lexC_hit hl (by omega) hi3 (by assumption)
   ·skip
    refine kc_skipQ (kq_code (kc_region (kl_inc rfl rfl (by omega) ?_)))
    refine kl_mv rfl (kl_nil (kq_round0 ((k + 1)) (by omega) (⟨by omega, lexC_step hl (by omega) hi3 (Decidable.not_not.1 (by assumption))⟩) (pc 11 rfl pn) (pc 0 rfl (pc 1 rfl (pc 9 rfl (pc 10 rfl pn)))) (List.Sublist.refl _)))
 ·skip
  refine kc_exit (kq_code (kc_seq (kc_seq (kc_region (kl_mv rfl (kl_len rfl (by assumption) (fun l13 => ?_)))))))
  refine kl_mv rfl (kl_len rfl (by assumption) (fun l14 => ?_))
  refine kl_lss rfl rfl ?_
  refine kl_nil (kq_code (kc_if rfl (fun c15 => ?_) (fun c15 => ?_)))
  ·skip
   exfalso; omega
  ·skip
   refine kc_skipQ (kq_code (kc_seq (kc_region (kl_as rfl (kl_nil (kq_code (kc_ret (kq_retP rfl rfl (congrArg (Value.int .i64) ?_)))))))))
   exact lexC_end hl (by omega) hi3
end Go.Proofs.YtiilanckbocifaaGreat
