/- Walks of functions of the program: each returns what the plain function gives. Conditions: those that each statement names. -/
import Derived.Test.YtbbphbihgikmdaaGreatWcnt
import Derived.Test.YtbbphbihgikmdaaGreatWdv
namespace Go.Proofs.YtbbphbihgikmdaaGreat
open Go
set_option linter.unusedSimpArgs false
set_option linter.unusedVariables false
theorem domSize_ok (d : Int) (hb : 0 ≤ d ∧ d ≤ 63) : SpecP Tryz.prog 66 [.int .i64 d] [] (.int .i64 (popI d)) := by
 refine spec_of Tryz.func66 rfl rfl rfl (fun B => ?_)
 refine kc_seq (kc_region ?_)
 refine kl_as rfl ?_
 refine kl_nil (kq_code ?_)
 refine kc_seq ?_
 refine kc_seq (kc_region ?_)
 refine kl_mv rfl ?_
 refine kl_callP rfl rfl (validDomI_ok d) ?_
 refine kl_not rfl ?_
 refine kl_nil (kq_code ?_)
 refine kc_cond rfl (fun c1 => ?_) (fun c1 => ?_)
 ·skip
  have c1r := c1
  try simp only [Bool.not_eq_true', Bool.not_eq_false', Bool.not_true, Bool.not_false, decide_eq_true_eq, decide_eq_false_iff_not, Bool.and_eq_true, Bool.or_eq_false_iff] at c1
  exact absurd (withinB_iff.2 hb) (by simpa using c1r)
 ·skip
  have c1r := c1
  try simp only [Bool.not_eq_true', Bool.not_eq_false', Bool.not_true, Bool.not_false, decide_eq_true_eq, decide_eq_false_iff_not, Bool.and_eq_true, Bool.or_eq_false_iff] at c1
  refine kc_skipQ ?_
  refine kq_code ?_
  refine kc_seq (kc_region ?_)
  refine kl_mv rfl ?_
  refine kl_callP rfl rfl (size_ok d hb) ?_
  refine kl_as rfl ?_
  refine kl_nil (kq_code ?_)
  refine kc_ret ?_
  refine kq_retP rfl rfl (congrArg (Value.int .i64) ?_)
  rfl
theorem ltuples_ok {Hds : Hp} {vds : Value} (ds : List Int) (hl : ds.length ≤ 4) (hd : DomV ds) (hds : Ints Hds vds ds) : SpecP Tryz.prog 23 [vds] [Hds] (.int .i64 (prodTo ds ds.length)) := by
 refine spec_of Tryz.func23 rfl rfl rfl (fun B => ?_)
 refine kc_seq (kc_region ?_)
 refine kl_as rfl ?_
 refine kl_nil (kq_code (kc_seq (kc_region ?_)))
 refine kl_as rfl ?_
 refine kl_nil (kq_code ?_)
 refine kc_seq ?_
 refine kc_seq (kc_region ?_)
 refine kl_as rfl ?_
 refine kl_nil (kq_code ?_)
 refine kc_block ?_
 refine kc_loop0 (A := Nat × Int) (fun zz => (zz.1 ≤ ds.length) ∧ (zz.2 = prodTo ds zz.1)) (fun zz => ds.length - zz.1) (fun zz => [(4, .int .i64 (zz.1 : Int)), (3, .int .i64 zz.2)]) (0, (1 : Int)) (pc 0 rfl (pc 2 rfl pn)) (pc 4 rfl (pc 3 rfl pn)) ⟨Nat.zero_le _, rfl⟩ ?_
 rintro ⟨k, s⟩ hJ3
 obtain ⟨hk1, hi2⟩ : (k ≤ ds.length) ∧ (s = prodTo ds k) := hJ3
 change KC _ _ (_) _ _ ([(4, .int .i64 (k : Int)), (3, .int .i64 s)] ++ _)
 refine kc_seq ?_
 refine kc_seq (kc_region ?_)
 refine kl_mv rfl ?_
 refine kl_mv rfl ?_
 refine kl_len rfl (by assumption) (fun l4 => ?_)
 refine kl_lss rfl rfl ?_
 refine kl_nil (kq_code ?_)
 refine kc_if rfl (fun c5 => ?_) (fun c5 => ?_)
 ·skip
  have hb := hd.at (i := k) (by omega)
  have hpr := prod_few hl (k := k + 1) (by omega)
  rw [prodTo, ← hi2] at hpr
  refine kc_skipQ ?_
  refine kq_code ?_
  refine kc_seq ?_
  refine kc_block ?_
  refine kc_region ?_
  refine kl_mv rfl ?_
  refine kl_mv rfl ?_
  refine kl_mv rfl ?_
  refine kl_inI rfl rfl (by assumption) (by omega) (fun p6 a7 => ?_)
  refine kl_ld rfl (by assumption) ?_
  refine kl_callP rfl rfl (domSize_ok (ds.getD k 0) hb) ?_
  refine kl_mul rfl rfl (by omega) ?_
  refine kl_as rfl ?_
  refine kl_nil (kq_code ?_)
  refine kc_region ?_
  refine kl_mv rfl ?_
  refine kl_inc rfl rfl (by omega) ?_
  refine kl_as rfl ?_
  refine kl_nil ?_
  refine kq_round0 ((k + 1), (s * (popI (ds.getD k 0)))) (by omega) (⟨by omega, (by rw [prodTo, ← hi2])⟩) (pc 4 rfl (pc 3 rfl pn)) (pc 0 rfl (pc 2 rfl pn)) (List.Sublist.refl _)
 ·skip
  refine kc_exit ?_
  refine kq_code ?_
  refine kc_seq (kc_region ?_)
  refine kl_mv rfl ?_
  refine kl_as rfl ?_
  refine kl_nil (kq_code ?_)
  refine kc_ret ?_
  refine kq_retP rfl rfl (congrArg (Value.int .i64) ?_)
  rw [show ds.length = k from by omega]; exact hi2
end Go.Proofs.YtbbphbihgikmdaaGreat
