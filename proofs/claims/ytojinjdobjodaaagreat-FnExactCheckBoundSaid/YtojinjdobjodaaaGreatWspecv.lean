/- Walks of functions of the program: each returns what the plain function gives. Conditions: those that each statement names. -/
import Derived.Test.YtojinjdobjodaaaGreatTys
import Derived.Test.YtojinjdobjodaaaGreatPure
namespace Go.Proofs.YtojinjdobjodaaaGreat
open Go
set_option linter.unusedSimpArgs false
set_option linter.unusedVariables false
theorem inRange_ok (n : Int) (lo : Int) (hi : Int) : SpecP Tryz.prog 42 [.int .i64 n, .int .i64 lo, .int .i64 hi] [] (.bool (withinB n lo hi)) := by
 refine spec_of Tryz.func42 rfl rfl rfl (fun B => ?_)
 refine kc_seq (kc_region (kl_as rfl (kl_nil (kq_code (kc_seq (kc_region (kl_mv rfl (kl_mv rfl (kl_geq rfl rfl ?_)))))))))
 refine kl_mv rfl (kl_join 4 14 (.bool (decide (lo ≤ n) && decide (n ≤ hi))) (pc 6 rfl (pc 10 rfl pn)) (fun J2 => ?_) ?_)
 ·rcases Bool.eq_false_or_eq_true (decide (lo ≤ n)) with g1 | g1
  ·skip
   have g1p := of_decide_eq_true g1
   refine kl_gT rfl rfl g1 (kl_mv rfl (kl_gT rfl rfl g1 (kl_mv rfl (kl_gT rfl rfl g1 (kl_leq rfl rfl ?_)))))
   refine kl_andT rfl rfl g1 ?_
   exact J2 _ (pc 14 rfl (pc 6 rfl (pc 10 rfl pn)))
  ·skip
   refine kl_gF rfl rfl g1 (kl_gF rfl rfl g1 (kl_gF rfl rfl g1 (kl_andF (decide (n ≤ hi)) rfl rfl g1 ?_)))
   exact J2 _ (pc 14 rfl (pc 6 rfl (pc 10 rfl pn)))
 refine kl_as rfl (kl_nil (kq_code (kc_ret (kq_retP rfl rfl (congrArg Value.bool ?_)))))
 rfl
theorem validDomain_ok (d : Int) : SpecP Tryz.prog 72 [.int .i64 d] [] (.bool (validDomB d)) := by
 refine spec_of Tryz.func72 rfl rfl rfl (fun B => ?_)
 refine kc_seq (kc_region (kl_as rfl (kl_nil (kq_code (kc_seq (kc_region (kl_mv rfl (kl_callP rfl rfl (inRange_ok d (0 : Int) (63 : Int)) ?_))))))))
 refine kl_as rfl (kl_nil (kq_code (kc_ret (kq_retP rfl rfl (congrArg Value.bool ?_)))))
 rfl
theorem allInRange_ok {Hxs : Hp} {vxs : Value} (xs : List Int) (lo : Int) (hi : Int) (hxs : Ints Hxs vxs xs) : SpecP Tryz.prog 74 [vxs, .int .i64 lo, .int .i64 hi] [Hxs] (.bool (allInB xs lo hi)) := by
 refine spec_of Tryz.func74 rfl rfl rfl (fun B => ?_)
 refine kc_seq (kc_region (kl_as rfl (kl_nil (kq_code (kc_seq (kc_seq (kc_region (kl_as rfl (kl_nil (kq_code (kc_block (kc_loop0 (A := Nat) (fun zz => (zz ≤ xs.length) ∧ ((xs.take zz).all (fun n => withinB n lo hi) = true)) (fun zz => xs.length - zz) (fun zz => [(7, .int .i64 (zz : Int))]) (0) (pc 0 rfl (pc 1 rfl (pc 2 rfl pn))) (pc 7 rfl pn) ⟨Nat.zero_le _, by simp⟩ ?_))))))))))))
 rintro k hJ3
 obtain ⟨hk1, hi2⟩ : (k ≤ xs.length) ∧ ((xs.take k).all (fun n => withinB n lo hi) = true) := hJ3
 change KC _ _ (_) _ _ ([(7, .int .i64 (k : Int))] ++ _)
 refine kc_seq (kc_seq (kc_region (kl_mv rfl (kl_mv rfl (kl_len rfl (by assumption) (fun l4 => ?_))))))
 refine kl_lss rfl rfl ?_
 refine kl_nil (kq_code (kc_if rfl (fun c5 => ?_) (fun c5 => ?_)))
 ·skip
  refine kc_skipQ (kq_code (kc_seq (kc_block (kc_seq (kc_region (kl_mv rfl (kl_mv rfl (kl_inI rfl rfl (by assumption) (by omega) (fun p6 a7 => ?_)))))))))
  refine kl_ld rfl (by assumption) (kl_mv rfl (kl_mv rfl (kl_callP rfl rfl (inRange_ok (xs.getD k 0) lo hi) ?_)))
  refine kl_not rfl (kl_nil (kq_code (kc_cond rfl (fun c8 => ?_) (fun c8 => ?_))))
  ·skip
   have c8r := c8
   try simp only [smpC, decide_eq_true_eq, decide_eq_false_iff_not] at c8
   refine kc_seq (kc_region (kl_as rfl (kl_nil (kq_code (kc_ret (kq_retP rfl rfl (congrArg Value.bool ?_)))))))
   exact (all_false (d := 0) (k := k) (by omega) (by assumption)).symm
  ·skip
   have c8r := c8
   try simp only [smpC, decide_eq_true_eq, decide_eq_false_iff_not] at c8
   refine kc_skipQ (kq_code (kc_region (kl_mv rfl (kl_inc rfl rfl (by omega) ?_))))
   refine kl_as rfl (kl_nil (kq_round0 ((k + 1)) (by omega) (⟨by omega, all_take_step (d := 0) (by omega) hi2 (by assumption)⟩) (pc 7 rfl pn) (pc 0 rfl (pc 1 rfl (pc 2 rfl pn))) (List.Sublist.refl _)))
 ·skip
  refine kc_exit (kq_code (kc_seq (kc_region (kl_as rfl (kl_nil (kq_code (kc_ret (kq_retP rfl rfl (congrArg Value.bool ?_)))))))))
  rw [List.take_of_length_le (by omega)] at *; exact (by assumption : allInB xs lo hi = true).symm
theorem sdistinct_ok {Hxs : Hp} {vxs : Value} (xs : List Int) (hxs : Ints Hxs vxs xs) : SpecP Tryz.prog 112 [vxs] [Hxs] (.bool (distinctB xs)) := by
 refine spec_of Tryz.func112 rfl rfl rfl (fun B => ?_)
 refine kc_seq (kc_region (kl_as rfl (kl_nil (kq_code (kc_seq (kc_seq (kc_region (kl_as rfl (kl_nil (kq_code (kc_block (kc_loop0 (A := Nat) (fun zz => (zz ≤ xs.length) ∧ ((xs.take zz).Nodup)) (fun zz => xs.length - zz) (fun zz => [(3, .int .i64 (zz : Int))]) (0) (pc 0 rfl pn) (pc 3 rfl pn) ⟨Nat.zero_le _, by simp⟩ ?_))))))))))))
 rintro k hJ3
 obtain ⟨hk1, hi2⟩ : (k ≤ xs.length) ∧ ((xs.take k).Nodup) := hJ3
 change KC _ _ (_) _ _ ([(3, .int .i64 (k : Int))] ++ _)
 refine kc_seq (kc_seq (kc_region (kl_mv rfl (kl_mv rfl (kl_len rfl (by assumption) (fun l4 => ?_))))))
 refine kl_lss rfl rfl ?_
 refine kl_nil (kq_code (kc_if rfl (fun c5 => ?_) (fun c5 => ?_)))
 ·skip
  refine kc_skipQ (kq_code (kc_seq (kc_block (kc_seq (kc_region (kl_as rfl (kl_nil (kq_code (kc_block (kc_loop0 (A := Nat) (fun zz => (zz ≤ k) ∧ ((xs.take zz).all (fun y => decide (xs.getD k 0 ≠ y)) = true)) (fun zz => k - zz) (fun zz => [(4, .int .i64 (zz : Int))]) (0) (pc 0 rfl (pc 3 rfl (pc 5 rfl (pc 6 rfl (pc 7 rfl (pc 8 rfl pn)))))) (pc 4 rfl pn) ⟨Nat.zero_le _, by simp⟩ ?_))))))))))
  rintro j hJ8
  obtain ⟨hk6, hi7⟩ : (j ≤ k) ∧ ((xs.take j).all (fun y => decide (xs.getD k 0 ≠ y)) = true) := hJ8
  change KC _ _ (_) _ _ ([(4, .int .i64 (j : Int))] ++ _)
  refine kc_seq (kc_seq (kc_region (kl_mv rfl (kl_mv rfl (kl_lss rfl rfl ?_)))))
  refine kl_nil (kq_code (kc_if rfl (fun c9 => ?_) (fun c9 => ?_)))
  ·skip
   refine kc_skipQ (kq_code (kc_seq (kc_block (kc_seq (kc_draw 9 [true, true, true, true, true, true, true, true, true] (by kernel_rfl) (by kernel_rfl) ?_)))))
   refine kl_mv rfl (kl_mv rfl (kl_inI rfl rfl (by assumption) (by omega) (fun p10 a11 => ?_)))
   refine kl_ld rfl (by assumption) (kl_mv rfl (kl_mv rfl (kl_inI rfl rfl (by assumption) (by omega) (fun p12 a13 => ?_))))
   refine kl_ld rfl (by assumption) (kl_eql rfl rfl ?_)
   refine kl_nil (kq_code (kc_if rfl (fun c14 => ?_) (fun c14 => ?_)))
   ·skip
    refine kc_seq (kc_region (kl_as rfl (kl_nil (kq_code (kc_ret (kq_retP rfl rfl (congrArg Value.bool ?_)))))))
    exact (decide_eq_false (nodup_not (k := k) (by omega) (mem_take_of (k := j) (by omega) (by omega) (by assumption)))).symm
   ·skip
    refine kc_skipQ (kq_code (kc_region (kl_mv rfl (kl_inc rfl rfl (by omega) ?_))))
    refine kl_as rfl (kl_nil (kq_round0 ((j + 1)) (by omega) (⟨by omega, all_take_step (d := 0) (by omega) hi7 (by simpa using by assumption)⟩) (pc 4 rfl pn) (pc 0 rfl (pc 3 rfl (pc 5 rfl (pc 6 rfl (pc 7 rfl (pc 8 rfl pn)))))) (List.Sublist.refl _)))
  ·skip
   refine kc_exit (kq_code (kc_region (kl_mv rfl (kl_inc rfl rfl (by omega) ?_))))
   refine kl_as rfl (kl_nil (kq_round0 ((k + 1)) (by omega) (⟨by omega, (nodup_take_succ (by omega)).2 ⟨hi2, not_mem_k2 (j := j) (by omega) (by assumption)⟩⟩) (pc 3 rfl pn) (pc 0 rfl pn) (List.Sublist.refl _)))
 ·skip
  refine kc_exit (kq_code (kc_seq (kc_region (kl_as rfl (kl_nil (kq_code (kc_ret (kq_retP rfl rfl (congrArg Value.bool ?_)))))))))
  simp only [distinctB]; rw [List.take_of_length_le (by omega)] at *; exact (decide_eq_true (by assumption)).symm
theorem validRows_ok {Hrows : Hp} {vrows : Value} (rows : List (List Int)) (n : Int) (lo : Int) (hi : Int) (hrows : Rows Hrows vrows rows) : SpecP Tryz.prog 113 [vrows, .int .i64 n, .int .i64 lo, .int .i64 hi] [Hrows] (.bool (rowsInB rows n lo hi)) := by
 refine spec_of Tryz.func113 rfl rfl rfl (fun B => ?_)
 refine kc_seq (kc_region (kl_as rfl (kl_nil (kq_code (kc_seq (kc_seq (kc_region (kl_as rfl (kl_nil (kq_code (kc_block (kc_loop0 (A := Nat) (fun zz => (zz ≤ rows.length) ∧ ((rows.take zz).all (fun r => decide ((r.length : Int) = n) && allInB r lo hi) = true)) (fun zz => rows.length - zz) (fun zz => [(9, .int .i64 (zz : Int))]) (0) (pc 0 rfl (pc 1 rfl (pc 2 rfl (pc 3 rfl pn)))) (pc 9 rfl pn) ⟨Nat.zero_le _, by simp⟩ ?_))))))))))))
 rintro k hJ3
 obtain ⟨hk1, hi2⟩ : (k ≤ rows.length) ∧ ((rows.take k).all (fun r => decide ((r.length : Int) = n) && allInB r lo hi) = true) := hJ3
 change KC _ _ (_) _ _ ([(9, .int .i64 (k : Int))] ++ _)
 refine kc_seq (kc_seq (kc_region (kl_mv rfl (kl_mv rfl (kl_len rfl (by assumption) (fun l4 => ?_))))))
 refine kl_lss rfl rfl ?_
 refine kl_nil (kq_code (kc_if rfl (fun c5 => ?_) (fun c5 => ?_)))
 ·skip
  refine kc_skipQ (kq_code (kc_seq (kc_block (kc_seq (kc_region (kl_mv rfl (kl_mv rfl (kl_inS rfl rfl (by assumption) (by omega) (fun p6 u8 h9 a7 => ?_)))))))))
  refine kl_ld rfl (by assumption) (kl_len rfl (by assumption) (fun l10 => ?_))
  refine kl_mv rfl (kl_neq rfl rfl ?_)
  refine kl_mv rfl (kl_join 9 32 (.bool (decide (((rows.getD k []).length : Int) ≠ n) || !(allInB (rows.getD k []) lo hi))) (pc 0 rfl (pc 1 rfl (pc 2 rfl (pc 3 rfl (pc 9 rfl (pc 10 rfl (pc 11 rfl (pc 12 rfl (pc 13 rfl (pc 16 rfl (pc 17 rfl (pc 18 rfl (pc 19 rfl (pc 20 rfl (pc 21 rfl (pc 22 rfl (pc 23 rfl pn))))))))))))))))) (fun J16 => ?_) ?_)
  ·rcases Bool.eq_false_or_eq_true (decide (((rows.getD k []).length : Int) ≠ n)) with g11 | g11
   ·skip
    refine kl_gF rfl rfl g11 (kl_gF rfl rfl g11 (kl_gF rfl rfl g11 (kl_gF rfl rfl g11 (kl_gF rfl rfl g11 (kl_gF rfl rfl g11 (kl_gF rfl rfl g11 (kl_gF rfl rfl g11 (kl_orT (!(allInB (rows.getD k []) lo hi)) rfl rfl g11 ?_))))))))
    exact J16 _ (pc 32 rfl (pc 0 rfl (pc 1 rfl (pc 2 rfl (pc 3 rfl (pc 9 rfl (pc 10 rfl (pc 11 rfl (pc 12 rfl (pc 13 rfl (pc 16 rfl (pc 17 rfl (pc 18 rfl (pc 19 rfl (pc 20 rfl (pc 21 rfl (pc 22 rfl (pc 23 rfl pn))))))))))))))))))
   ·skip
    have g11p := of_decide_eq_false g11
    refine kl_gT rfl rfl g11 (kl_mv rfl (kl_gT rfl rfl g11 (kl_mv rfl (kl_gT rfl rfl g11 (kl_inS rfl rfl (by assumption) (by omega) (fun p12 u14 h15 a13 => ?_))))))
    refine kl_gT rfl rfl g11 (kl_ld rfl (by assumption) (kl_gT rfl rfl g11 (kl_mv rfl (kl_gT rfl rfl g11 (kl_mv rfl (kl_gT rfl rfl g11 (kl_callP rfl rfl (allInRange_ok (rows.getD k []) lo hi (by assumption)) ?_)))))))
    refine kl_gT rfl rfl g11 (kl_not rfl (kl_orF rfl rfl g11 ?_))
    exact J16 _ (pc 32 rfl (pc 0 rfl (pc 1 rfl (pc 2 rfl (pc 3 rfl (pc 9 rfl (pc 10 rfl (pc 11 rfl (pc 12 rfl (pc 13 rfl (pc 16 rfl (pc 17 rfl (pc 18 rfl (pc 19 rfl (pc 20 rfl (pc 21 rfl (pc 22 rfl (pc 23 rfl pn))))))))))))))))))
  refine kl_nil (kq_code (kc_cond rfl (fun c17 => ?_) (fun c17 => ?_)))
  ·skip
   have c17r := c17
   try simp only [smpC, decide_eq_true_eq, decide_eq_false_iff_not] at c17
   refine kc_seq (kc_region (kl_as rfl (kl_nil (kq_code (kc_ret (kq_retP rfl rfl (congrArg Value.bool ?_)))))))
   exact (by simp only [rowsInB]; rw [all_false (k := k) (d := []) (by omega) (rowBad (by assumption))]; simp)
  ·skip
   have c17r := c17
   try simp only [smpC, decide_eq_true_eq, decide_eq_false_iff_not] at c17
   refine kc_skipQ (kq_code (kc_region (kl_mv rfl (kl_inc rfl rfl (by omega) ?_))))
   refine kl_as rfl (kl_nil (kq_round0 ((k + 1)) (by omega) (⟨by omega, all_take_step (d := []) (by omega) hi2 (rowGood (by assumption))⟩) (pc 9 rfl pn) (pc 0 rfl (pc 1 rfl (pc 2 rfl (pc 3 rfl pn)))) (List.Sublist.refl _)))
 ·skip
  refine kc_exit (kq_code (kc_seq (kc_region (kl_mv rfl (kl_len rfl (by assumption) (fun l18 => ?_))))))
  refine kl_callP rfl rfl (inRange_ok (rows.length : Int) (1 : Int) (8 : Int)) ?_
  refine kl_as rfl (kl_nil (kq_code (kc_ret (kq_retP rfl rfl (congrArg Value.bool ?_)))))
  rw [List.take_of_length_le (by omega)] at *; simp only [rowsInB]; simp [*]
theorem svalidCon_ok {Hcv : Hp} {vcv : Value} {Hca : Hp} {vca : Value} {Hcr : Hp} {vcr : Value} (c : Con) (n : Int) (hn : -9223372036854775807 ≤ n ∧ n ≤ 9223372036854775807) (hcv : Ints Hcv vcv c.vars) (hca : Ints Hca vca c.args) (hcr : Rows Hcr vcr c.rows) : SpecP Tryz.prog 73 [.agg #[.int .i64 c.kind, vcv, vca, .int .i64 c.bound, vcr], .int .i64 n] [Hcv, Hca, Hcr] (.bool (validConS c n)) := by
 refine spec_of Tryz.func73 rfl rfl rfl (fun B => ?_)
 refine kc_seq (kc_region (kl_box rfl rfl (fun p1 H2 f3 a4 => ?_)))
 refine kl_as rfl (kl_nil (kq_code (kc_seq (kc_region (kl_fd rfl (by assumption) (fun p5 a6 => ?_))))))
 refine kl_ld rfl (by assumption) (kl_len rfl (by assumption) (fun l7 => ?_))
 refine kl_as rfl (kl_nil (kq_code (kc_seq (kc_seq (kc_region (kl_mv rfl (kl_mv rfl (kl_callP rfl rfl (inRange_ok (c.vars.length : Int) (1 : Int) n) ?_))))))))
 refine kl_not rfl (kl_mv rfl (kl_join 7 20 (.bool (!(withinB (c.vars.length : Int) (1 : Int) n) || !(allInB c.vars (0 : Int) (n - (1 : Int))))) (pc 2 rfl (pc 4 rfl (pc 5 rfl (pc 13 rfl pn)))) (fun J11 => ?_) ?_))
 ·rcases Bool.eq_false_or_eq_true (!(withinB (c.vars.length : Int) (1 : Int) n)) with g8 | g8
  ·skip
   refine kl_gF rfl rfl g8 (kl_gF rfl rfl g8 (kl_gF rfl rfl g8 (kl_gF rfl rfl g8 (kl_gF rfl rfl g8 (kl_gF rfl rfl g8 (kl_orT (!(allInB c.vars (0 : Int) (n - (1 : Int)))) rfl rfl g8 ?_))))))
   exact J11 _ (pc 20 rfl (pc 2 rfl (pc 4 rfl (pc 5 rfl (pc 13 rfl pn)))))
  ·skip
   have g8p := g8
   try simp only [Bool.not_eq_true', Bool.not_eq_false', decide_eq_true_eq, decide_eq_false_iff_not, Bool.and_eq_true, Bool.or_eq_false_iff, withinB_iff] at g8p
   refine kl_gT rfl rfl g8 (kl_fd rfl (by assumption) (fun p9 a10 => ?_))
   refine kl_gT rfl rfl g8 (kl_ld rfl (by assumption) (kl_gT rfl rfl g8 (kl_mv rfl (kl_gT rfl rfl g8 (kl_sub rfl rfl (by omega) ?_)))))
   refine kl_gT rfl rfl g8 (kl_callP rfl rfl (allInRange_ok c.vars (0 : Int) (n - (1 : Int)) (by assumption)) ?_)
   refine kl_gT rfl rfl g8 (kl_not rfl (kl_orF rfl rfl g8 ?_))
   exact J11 _ (pc 20 rfl (pc 2 rfl (pc 4 rfl (pc 5 rfl (pc 13 rfl pn)))))
 refine kl_mv rfl (kl_join 5 26 (.bool ((!(withinB (c.vars.length : Int) (1 : Int) n) || !(allInB c.vars (0 : Int) (n - (1 : Int)))) || !(distinctB c.vars))) (pc 2 rfl (pc 4 rfl (pc 5 rfl (pc 21 rfl pn)))) (fun J15 => ?_) ?_)
 ·rcases Bool.eq_false_or_eq_true (!(withinB (c.vars.length : Int) (1 : Int) n) || !(allInB c.vars (0 : Int) (n - (1 : Int)))) with g12 | g12
  ·skip
   refine kl_gF rfl rfl g12 (kl_gF rfl rfl g12 (kl_gF rfl rfl g12 (kl_gF rfl rfl g12 (kl_orT (!(distinctB c.vars)) rfl rfl g12 ?_))))
   exact J15 _ (pc 26 rfl (pc 2 rfl (pc 4 rfl (pc 5 rfl (pc 21 rfl pn)))))
  ·skip
   have g12p := g12
   try simp only [Bool.not_eq_true', Bool.not_eq_false', decide_eq_true_eq, decide_eq_false_iff_not, Bool.and_eq_true, Bool.or_eq_false_iff, withinB_iff] at g12p
   refine kl_gT rfl rfl g12 (kl_fd rfl (by assumption) (fun p13 a14 => ?_))
   refine kl_gT rfl rfl g12 (kl_ld rfl (by assumption) (kl_gT rfl rfl g12 (kl_callP rfl rfl (sdistinct_ok c.vars (by assumption)) ?_)))
   refine kl_gT rfl rfl g12 (kl_not rfl (kl_orF rfl rfl g12 ?_))
   exact J15 _ (pc 26 rfl (pc 2 rfl (pc 4 rfl (pc 5 rfl (pc 21 rfl pn)))))
 refine kl_nil (kq_code (kc_cond rfl (fun c16 => ?_) (fun c16 => ?_)))
 ·skip
  have c16r := c16
  try simp only [smpC, decide_eq_true_eq, decide_eq_false_iff_not] at c16
  refine kc_seq (kc_region (kl_as rfl (kl_nil (kq_code (kc_ret (kq_retP rfl rfl (congrArg Value.bool ?_)))))))
  exact conS_no (by assumption)
 ·skip
  have c16r := c16
  try simp only [smpC, decide_eq_true_eq, decide_eq_false_iff_not] at c16
  refine kc_skipQ (kq_code (kc_seq (kc_seq (kc_region (kl_fd rfl (by assumption) (fun p17 a18 => ?_))))))
  refine kl_ld rfl (by assumption) (kl_nil (kq_code (kc_block (kc_seq (kc_region (kl_eql rfl rfl ?_))))))
  refine kl_as rfl (kl_nil (kq_code (kc_if rfl (fun c19 => ?_) (fun c19 => ?_))))
  ·skip
   refine kc_seq (kc_region (kl_fd rfl (by assumption) (fun p20 a21 => ?_)))
   refine kl_ld rfl (by assumption) (kl_len rfl (by assumption) (fun l22 => ?_))
   refine kl_mv rfl (kl_eql rfl rfl ?_)
   refine kl_mv rfl (kl_join 4 40 (.bool (decide ((c.args.length : Int) = (c.vars.length : Int)) && (allInB c.args (-9 : Int) (9 : Int)))) (pc 2 rfl (pc 4 rfl (pc 36 rfl pn))) (fun J26 => ?_) ?_)
   ·rcases Bool.eq_false_or_eq_true (decide ((c.args.length : Int) = (c.vars.length : Int))) with g23 | g23
    ·skip
     have g23p := of_decide_eq_true g23
     refine kl_gT rfl rfl g23 (kl_fd rfl (by assumption) (fun p24 a25 => ?_))
     refine kl_gT rfl rfl g23 (kl_ld rfl (by assumption) (kl_gT rfl rfl g23 (kl_callP rfl rfl (allInRange_ok c.args (-9 : Int) (9 : Int) (by assumption)) ?_)))
     refine kl_andT rfl rfl g23 ?_
     exact J26 _ (pc 40 rfl (pc 2 rfl (pc 4 rfl (pc 36 rfl pn))))
    ·skip
     refine kl_gF rfl rfl g23 (kl_gF rfl rfl g23 (kl_gF rfl rfl g23 (kl_andF (allInB c.args (-9 : Int) (9 : Int)) rfl rfl g23 ?_)))
     exact J26 _ (pc 40 rfl (pc 2 rfl (pc 4 rfl (pc 36 rfl pn))))
   refine kl_mv rfl (kl_join 4 45 (.bool ((decide ((c.args.length : Int) = (c.vars.length : Int)) && (allInB c.args (-9 : Int) (9 : Int))) && (withinB c.bound (-999 : Int) (999 : Int)))) (pc 2 rfl (pc 4 rfl (pc 41 rfl pn))) (fun J30 => ?_) ?_)
   ·rcases Bool.eq_false_or_eq_true (decide ((c.args.length : Int) = (c.vars.length : Int)) && (allInB c.args (-9 : Int) (9 : Int))) with g27 | g27
    ·skip
     have g27p := g27
     try simp only [Bool.not_eq_true', Bool.not_eq_false', decide_eq_true_eq, decide_eq_false_iff_not, Bool.and_eq_true, Bool.or_eq_false_iff, withinB_iff] at g27p
     refine kl_gT rfl rfl g27 (kl_fd rfl (by assumption) (fun p28 a29 => ?_))
     refine kl_gT rfl rfl g27 (kl_ld rfl (by assumption) (kl_gT rfl rfl g27 (kl_callP rfl rfl (inRange_ok c.bound (-999 : Int) (999 : Int)) ?_)))
     refine kl_andT rfl rfl g27 ?_
     exact J30 _ (pc 45 rfl (pc 2 rfl (pc 4 rfl (pc 41 rfl pn))))
    ·skip
     refine kl_gF rfl rfl g27 (kl_gF rfl rfl g27 (kl_gF rfl rfl g27 (kl_andF (withinB c.bound (-999 : Int) (999 : Int)) rfl rfl g27 ?_)))
     exact J30 _ (pc 45 rfl (pc 2 rfl (pc 4 rfl (pc 41 rfl pn))))
   refine kl_mv rfl (kl_join 5 51 (.bool (((decide ((c.args.length : Int) = (c.vars.length : Int)) && (allInB c.args (-9 : Int) (9 : Int))) && (withinB c.bound (-999 : Int) (999 : Int))) && decide ((c.rows.length : Int) = (0 : Int)))) (pc 4 rfl (pc 46 rfl pn)) (fun J35 => ?_) ?_)
   ·rcases Bool.eq_false_or_eq_true ((decide ((c.args.length : Int) = (c.vars.length : Int)) && (allInB c.args (-9 : Int) (9 : Int))) && (withinB c.bound (-999 : Int) (999 : Int))) with g31 | g31
    ·skip
     have g31p := g31
     try simp only [Bool.not_eq_true', Bool.not_eq_false', decide_eq_true_eq, decide_eq_false_iff_not, Bool.and_eq_true, Bool.or_eq_false_iff, withinB_iff] at g31p
     refine kl_gT rfl rfl g31 (kl_fd rfl (by assumption) (fun p32 a33 => ?_))
     refine kl_gT rfl rfl g31 (kl_ld rfl (by assumption) (kl_gT rfl rfl g31 (kl_len rfl (by assumption) (fun l34 => ?_))))
     refine kl_gT rfl rfl g31 (kl_eql rfl rfl ?_)
     refine kl_andT rfl rfl g31 ?_
     exact J35 _ (pc 51 rfl (pc 4 rfl (pc 46 rfl pn)))
    ·skip
     refine kl_gF rfl rfl g31 (kl_gF rfl rfl g31 (kl_gF rfl rfl g31 (kl_gF rfl rfl g31 (kl_andF (decide ((c.rows.length : Int) = (0 : Int))) rfl rfl g31 ?_))))
     exact J35 _ (pc 51 rfl (pc 4 rfl (pc 46 rfl pn)))
   refine kl_as rfl (kl_nil (kq_code (kc_ret (kq_retP rfl rfl (congrArg Value.bool ?_)))))
   exact conS_yes (by assumption) (by first | (exfalso; omega) | (simp only [fitsB, *]; first | rfl | (simp; done) | (simp; ac_rfl)))
  ·skip
   refine kc_seq (kc_region (kl_eql rfl rfl ?_))
   refine kl_as rfl (kl_nil (kq_code (kc_if rfl (fun c36 => ?_) (fun c36 => ?_))))
   ·skip
    refine kc_seq (kc_region (kl_mv rfl (kl_eql rfl rfl ?_)))
    refine kl_mv rfl (kl_join 5 61 (.bool (decide ((c.vars.length : Int) = (2 : Int)) && decide ((c.args.length : Int) = (1 : Int)))) (pc 2 rfl (pc 4 rfl (pc 56 rfl pn))) (fun J41 => ?_) ?_)
    ·rcases Bool.eq_false_or_eq_true (decide ((c.vars.length : Int) = (2 : Int))) with g37 | g37
     ·skip
      have g37p := of_decide_eq_true g37
      refine kl_gT rfl rfl g37 (kl_fd rfl (by assumption) (fun p38 a39 => ?_))
      refine kl_gT rfl rfl g37 (kl_ld rfl (by assumption) (kl_gT rfl rfl g37 (kl_len rfl (by assumption) (fun l40 => ?_))))
      refine kl_gT rfl rfl g37 (kl_eql rfl rfl ?_)
      refine kl_andT rfl rfl g37 ?_
      exact J41 _ (pc 61 rfl (pc 2 rfl (pc 4 rfl (pc 56 rfl pn))))
     ·skip
      refine kl_gF rfl rfl g37 (kl_gF rfl rfl g37 (kl_gF rfl rfl g37 (kl_gF rfl rfl g37 (kl_andF (decide ((c.args.length : Int) = (1 : Int))) rfl rfl g37 ?_))))
      exact J41 _ (pc 61 rfl (pc 2 rfl (pc 4 rfl (pc 56 rfl pn))))
    refine kl_mv rfl (kl_join 4 66 (.bool ((decide ((c.vars.length : Int) = (2 : Int)) && decide ((c.args.length : Int) = (1 : Int))) && (allInB c.args (-9 : Int) (9 : Int)))) (pc 2 rfl (pc 4 rfl (pc 62 rfl pn))) (fun J45 => ?_) ?_)
    ·rcases Bool.eq_false_or_eq_true (decide ((c.vars.length : Int) = (2 : Int)) && decide ((c.args.length : Int) = (1 : Int))) with g42 | g42
     ·skip
      have g42p := g42
      try simp only [Bool.not_eq_true', Bool.not_eq_false', decide_eq_true_eq, decide_eq_false_iff_not, Bool.and_eq_true, Bool.or_eq_false_iff, withinB_iff] at g42p
      refine kl_gT rfl rfl g42 (kl_fd rfl (by assumption) (fun p43 a44 => ?_))
      refine kl_gT rfl rfl g42 (kl_ld rfl (by assumption) (kl_gT rfl rfl g42 (kl_callP rfl rfl (allInRange_ok c.args (-9 : Int) (9 : Int) (by assumption)) ?_)))
      refine kl_andT rfl rfl g42 ?_
      exact J45 _ (pc 66 rfl (pc 2 rfl (pc 4 rfl (pc 62 rfl pn))))
     ·skip
      refine kl_gF rfl rfl g42 (kl_gF rfl rfl g42 (kl_gF rfl rfl g42 (kl_andF (allInB c.args (-9 : Int) (9 : Int)) rfl rfl g42 ?_)))
      exact J45 _ (pc 66 rfl (pc 2 rfl (pc 4 rfl (pc 62 rfl pn))))
    refine kl_mv rfl (kl_join 4 71 (.bool (((decide ((c.vars.length : Int) = (2 : Int)) && decide ((c.args.length : Int) = (1 : Int))) && (allInB c.args (-9 : Int) (9 : Int))) && decide (c.bound = (0 : Int)))) (pc 2 rfl (pc 4 rfl (pc 67 rfl pn))) (fun J49 => ?_) ?_)
    ·rcases Bool.eq_false_or_eq_true ((decide ((c.vars.length : Int) = (2 : Int)) && decide ((c.args.length : Int) = (1 : Int))) && (allInB c.args (-9 : Int) (9 : Int))) with g46 | g46
     ·skip
      have g46p := g46
      try simp only [Bool.not_eq_true', Bool.not_eq_false', decide_eq_true_eq, decide_eq_false_iff_not, Bool.and_eq_true, Bool.or_eq_false_iff, withinB_iff] at g46p
      refine kl_gT rfl rfl g46 (kl_fd rfl (by assumption) (fun p47 a48 => ?_))
      refine kl_gT rfl rfl g46 (kl_ld rfl (by assumption) (kl_gT rfl rfl g46 (kl_eql rfl rfl ?_)))
      refine kl_andT rfl rfl g46 ?_
      exact J49 _ (pc 71 rfl (pc 2 rfl (pc 4 rfl (pc 67 rfl pn))))
     ·skip
      refine kl_gF rfl rfl g46 (kl_gF rfl rfl g46 (kl_gF rfl rfl g46 (kl_andF (decide (c.bound = (0 : Int))) rfl rfl g46 ?_)))
      exact J49 _ (pc 71 rfl (pc 2 rfl (pc 4 rfl (pc 67 rfl pn))))
    refine kl_mv rfl (kl_join 5 77 (.bool ((((decide ((c.vars.length : Int) = (2 : Int)) && decide ((c.args.length : Int) = (1 : Int))) && (allInB c.args (-9 : Int) (9 : Int))) && decide (c.bound = (0 : Int))) && decide ((c.rows.length : Int) = (0 : Int)))) (pc 4 rfl (pc 72 rfl pn)) (fun J54 => ?_) ?_)
    ·rcases Bool.eq_false_or_eq_true (((decide ((c.vars.length : Int) = (2 : Int)) && decide ((c.args.length : Int) = (1 : Int))) && (allInB c.args (-9 : Int) (9 : Int))) && decide (c.bound = (0 : Int))) with g50 | g50
     ·skip
      have g50p := g50
      try simp only [Bool.not_eq_true', Bool.not_eq_false', decide_eq_true_eq, decide_eq_false_iff_not, Bool.and_eq_true, Bool.or_eq_false_iff, withinB_iff] at g50p
      refine kl_gT rfl rfl g50 (kl_fd rfl (by assumption) (fun p51 a52 => ?_))
      refine kl_gT rfl rfl g50 (kl_ld rfl (by assumption) (kl_gT rfl rfl g50 (kl_len rfl (by assumption) (fun l53 => ?_))))
      refine kl_gT rfl rfl g50 (kl_eql rfl rfl ?_)
      refine kl_andT rfl rfl g50 ?_
      exact J54 _ (pc 77 rfl (pc 4 rfl (pc 72 rfl pn)))
     ·skip
      refine kl_gF rfl rfl g50 (kl_gF rfl rfl g50 (kl_gF rfl rfl g50 (kl_gF rfl rfl g50 (kl_andF (decide ((c.rows.length : Int) = (0 : Int))) rfl rfl g50 ?_))))
      exact J54 _ (pc 77 rfl (pc 4 rfl (pc 72 rfl pn)))
    refine kl_as rfl (kl_nil (kq_code (kc_ret (kq_retP rfl rfl (congrArg Value.bool ?_)))))
    exact conS_yes (by assumption) (by first | (exfalso; omega) | (simp only [fitsB, *]; first | rfl | (simp; done) | (simp; ac_rfl)))
   ·skip
    refine kc_seq (kc_seq (kc_region (kl_eql rfl rfl ?_)))
    refine kl_as rfl (kl_nil (kq_code (kc_if rfl (fun c55 => ?_) (fun c55 => ?_))))
    ·skip
     refine kc_skipQ (kq_code (kc_if rfl (fun c56 => ?_) (fun c56 => ?_)))
     ·skip
      refine kc_seq (kc_region (kl_fd rfl (by assumption) (fun p57 a58 => ?_)))
      refine kl_ld rfl (by assumption) (kl_len rfl (by assumption) (fun l59 => ?_))
      refine kl_eql rfl rfl ?_
      refine kl_mv rfl (kl_join 4 89 (.bool (decide ((c.args.length : Int) = (0 : Int)) && decide (c.bound = (0 : Int)))) (pc 2 rfl (pc 4 rfl (pc 85 rfl pn))) (fun J63 => ?_) ?_)
      ·rcases Bool.eq_false_or_eq_true (decide ((c.args.length : Int) = (0 : Int))) with g60 | g60
       ·skip
        have g60p := of_decide_eq_true g60
        refine kl_gT rfl rfl g60 (kl_fd rfl (by assumption) (fun p61 a62 => ?_))
        refine kl_gT rfl rfl g60 (kl_ld rfl (by assumption) (kl_gT rfl rfl g60 (kl_eql rfl rfl ?_)))
        refine kl_andT rfl rfl g60 ?_
        exact J63 _ (pc 89 rfl (pc 2 rfl (pc 4 rfl (pc 85 rfl pn))))
       ·skip
        refine kl_gF rfl rfl g60 (kl_gF rfl rfl g60 (kl_gF rfl rfl g60 (kl_andF (decide (c.bound = (0 : Int))) rfl rfl g60 ?_)))
        exact J63 _ (pc 89 rfl (pc 2 rfl (pc 4 rfl (pc 85 rfl pn))))
      refine kl_mv rfl (kl_join 5 95 (.bool ((decide ((c.args.length : Int) = (0 : Int)) && decide (c.bound = (0 : Int))) && decide ((c.rows.length : Int) = (0 : Int)))) (pc 4 rfl (pc 90 rfl pn)) (fun J68 => ?_) ?_)
      ·rcases Bool.eq_false_or_eq_true (decide ((c.args.length : Int) = (0 : Int)) && decide (c.bound = (0 : Int))) with g64 | g64
       ·skip
        have g64p := g64
        try simp only [Bool.not_eq_true', Bool.not_eq_false', decide_eq_true_eq, decide_eq_false_iff_not, Bool.and_eq_true, Bool.or_eq_false_iff, withinB_iff] at g64p
        refine kl_gT rfl rfl g64 (kl_fd rfl (by assumption) (fun p65 a66 => ?_))
        refine kl_gT rfl rfl g64 (kl_ld rfl (by assumption) (kl_gT rfl rfl g64 (kl_len rfl (by assumption) (fun l67 => ?_))))
        refine kl_gT rfl rfl g64 (kl_eql rfl rfl ?_)
        refine kl_andT rfl rfl g64 ?_
        exact J68 _ (pc 95 rfl (pc 4 rfl (pc 90 rfl pn)))
       ·skip
        refine kl_gF rfl rfl g64 (kl_gF rfl rfl g64 (kl_gF rfl rfl g64 (kl_gF rfl rfl g64 (kl_andF (decide ((c.rows.length : Int) = (0 : Int))) rfl rfl g64 ?_))))
        exact J68 _ (pc 95 rfl (pc 4 rfl (pc 90 rfl pn)))
      refine kl_as rfl (kl_nil (kq_code (kc_ret (kq_retP rfl rfl (congrArg Value.bool ?_)))))
      exact conS_yes (by assumption) (by first | (exfalso; omega) | (simp only [fitsB, *]; first | rfl | (simp; done) | (simp; ac_rfl)))
     ·skip
      refine kc_seq (kc_region (kl_eql rfl rfl ?_))
      refine kl_as rfl (kl_nil (kq_code (kc_if rfl (fun c69 => ?_) (fun c69 => ?_))))
      ·skip
       refine kc_seq (kc_region (kl_mv rfl (kl_eql rfl rfl ?_)))
       refine kl_mv rfl (kl_join 5 105 (.bool (decide ((c.vars.length : Int) = (2 : Int)) && (withinB (c.args.length : Int) (1 : Int) (6 : Int)))) (pc 2 rfl (pc 4 rfl (pc 100 rfl pn))) (fun J74 => ?_) ?_)
       ·rcases Bool.eq_false_or_eq_true (decide ((c.vars.length : Int) = (2 : Int))) with g70 | g70
        ·skip
         have g70p := of_decide_eq_true g70
         refine kl_gT rfl rfl g70 (kl_fd rfl (by assumption) (fun p71 a72 => ?_))
         refine kl_gT rfl rfl g70 (kl_ld rfl (by assumption) (kl_gT rfl rfl g70 (kl_len rfl (by assumption) (fun l73 => ?_))))
         refine kl_gT rfl rfl g70 (kl_callP rfl rfl (inRange_ok (c.args.length : Int) (1 : Int) (6 : Int)) ?_)
         refine kl_andT rfl rfl g70 ?_
         exact J74 _ (pc 105 rfl (pc 2 rfl (pc 4 rfl (pc 100 rfl pn))))
        ·skip
         refine kl_gF rfl rfl g70 (kl_gF rfl rfl g70 (kl_gF rfl rfl g70 (kl_gF rfl rfl g70 (kl_andF (withinB (c.args.length : Int) (1 : Int) (6 : Int)) rfl rfl g70 ?_))))
         exact J74 _ (pc 105 rfl (pc 2 rfl (pc 4 rfl (pc 100 rfl pn))))
       refine kl_mv rfl (kl_join 4 110 (.bool ((decide ((c.vars.length : Int) = (2 : Int)) && (withinB (c.args.length : Int) (1 : Int) (6 : Int))) && (allInB c.args (0 : Int) (5 : Int)))) (pc 2 rfl (pc 4 rfl (pc 106 rfl pn))) (fun J78 => ?_) ?_)
       ·rcases Bool.eq_false_or_eq_true (decide ((c.vars.length : Int) = (2 : Int)) && (withinB (c.args.length : Int) (1 : Int) (6 : Int))) with g75 | g75
        ·skip
         have g75p := g75
         try simp only [Bool.not_eq_true', Bool.not_eq_false', decide_eq_true_eq, decide_eq_false_iff_not, Bool.and_eq_true, Bool.or_eq_false_iff, withinB_iff] at g75p
         refine kl_gT rfl rfl g75 (kl_fd rfl (by assumption) (fun p76 a77 => ?_))
         refine kl_gT rfl rfl g75 (kl_ld rfl (by assumption) (kl_gT rfl rfl g75 (kl_callP rfl rfl (allInRange_ok c.args (0 : Int) (5 : Int) (by assumption)) ?_)))
         refine kl_andT rfl rfl g75 ?_
         exact J78 _ (pc 110 rfl (pc 2 rfl (pc 4 rfl (pc 106 rfl pn))))
        ·skip
         refine kl_gF rfl rfl g75 (kl_gF rfl rfl g75 (kl_gF rfl rfl g75 (kl_andF (allInB c.args (0 : Int) (5 : Int)) rfl rfl g75 ?_)))
         exact J78 _ (pc 110 rfl (pc 2 rfl (pc 4 rfl (pc 106 rfl pn))))
       refine kl_mv rfl (kl_join 4 115 (.bool (((decide ((c.vars.length : Int) = (2 : Int)) && (withinB (c.args.length : Int) (1 : Int) (6 : Int))) && (allInB c.args (0 : Int) (5 : Int))) && decide (c.bound = (0 : Int)))) (pc 2 rfl (pc 4 rfl (pc 111 rfl pn))) (fun J82 => ?_) ?_)
       ·rcases Bool.eq_false_or_eq_true ((decide ((c.vars.length : Int) = (2 : Int)) && (withinB (c.args.length : Int) (1 : Int) (6 : Int))) && (allInB c.args (0 : Int) (5 : Int))) with g79 | g79
        ·skip
         have g79p := g79
         try simp only [Bool.not_eq_true', Bool.not_eq_false', decide_eq_true_eq, decide_eq_false_iff_not, Bool.and_eq_true, Bool.or_eq_false_iff, withinB_iff] at g79p
         refine kl_gT rfl rfl g79 (kl_fd rfl (by assumption) (fun p80 a81 => ?_))
         refine kl_gT rfl rfl g79 (kl_ld rfl (by assumption) (kl_gT rfl rfl g79 (kl_eql rfl rfl ?_)))
         refine kl_andT rfl rfl g79 ?_
         exact J82 _ (pc 115 rfl (pc 2 rfl (pc 4 rfl (pc 111 rfl pn))))
        ·skip
         refine kl_gF rfl rfl g79 (kl_gF rfl rfl g79 (kl_gF rfl rfl g79 (kl_andF (decide (c.bound = (0 : Int))) rfl rfl g79 ?_)))
         exact J82 _ (pc 115 rfl (pc 2 rfl (pc 4 rfl (pc 111 rfl pn))))
       refine kl_mv rfl (kl_join 5 121 (.bool ((((decide ((c.vars.length : Int) = (2 : Int)) && (withinB (c.args.length : Int) (1 : Int) (6 : Int))) && (allInB c.args (0 : Int) (5 : Int))) && decide (c.bound = (0 : Int))) && decide ((c.rows.length : Int) = (0 : Int)))) (pc 4 rfl (pc 116 rfl pn)) (fun J87 => ?_) ?_)
       ·rcases Bool.eq_false_or_eq_true (((decide ((c.vars.length : Int) = (2 : Int)) && (withinB (c.args.length : Int) (1 : Int) (6 : Int))) && (allInB c.args (0 : Int) (5 : Int))) && decide (c.bound = (0 : Int))) with g83 | g83
        ·skip
         have g83p := g83
         try simp only [Bool.not_eq_true', Bool.not_eq_false', decide_eq_true_eq, decide_eq_false_iff_not, Bool.and_eq_true, Bool.or_eq_false_iff, withinB_iff] at g83p
         refine kl_gT rfl rfl g83 (kl_fd rfl (by assumption) (fun p84 a85 => ?_))
         refine kl_gT rfl rfl g83 (kl_ld rfl (by assumption) (kl_gT rfl rfl g83 (kl_len rfl (by assumption) (fun l86 => ?_))))
         refine kl_gT rfl rfl g83 (kl_eql rfl rfl ?_)
         refine kl_andT rfl rfl g83 ?_
         exact J87 _ (pc 121 rfl (pc 4 rfl (pc 116 rfl pn)))
        ·skip
         refine kl_gF rfl rfl g83 (kl_gF rfl rfl g83 (kl_gF rfl rfl g83 (kl_gF rfl rfl g83 (kl_andF (decide ((c.rows.length : Int) = (0 : Int))) rfl rfl g83 ?_))))
         exact J87 _ (pc 121 rfl (pc 4 rfl (pc 116 rfl pn)))
       refine kl_as rfl (kl_nil (kq_code (kc_ret (kq_retP rfl rfl (congrArg Value.bool ?_)))))
       exact conS_yes (by assumption) (by first | (exfalso; omega) | (simp only [fitsB, *]; first | rfl | (simp; done) | (simp; ac_rfl)))
      ·skip
       refine kc_seq (kc_region (kl_eql rfl rfl ?_))
       refine kl_as rfl (kl_nil (kq_code (kc_if rfl (fun c88 => ?_) (fun c88 => ?_))))
       ·skip
        refine kc_seq (kc_region (kl_fd rfl (by assumption) (fun p89 a90 => ?_)))
        refine kl_ld rfl (by assumption) (kl_len rfl (by assumption) (fun l91 => ?_))
        refine kl_eql rfl rfl ?_
        refine kl_mv rfl (kl_join 4 132 (.bool (decide ((c.args.length : Int) = (0 : Int)) && decide (c.bound = (0 : Int)))) (pc 2 rfl (pc 4 rfl (pc 5 rfl (pc 128 rfl pn)))) (fun J95 => ?_) ?_)
        ·rcases Bool.eq_false_or_eq_true (decide ((c.args.length : Int) = (0 : Int))) with g92 | g92
         ·skip
          have g92p := of_decide_eq_true g92
          refine kl_gT rfl rfl g92 (kl_fd rfl (by assumption) (fun p93 a94 => ?_))
          refine kl_gT rfl rfl g92 (kl_ld rfl (by assumption) (kl_gT rfl rfl g92 (kl_eql rfl rfl ?_)))
          refine kl_andT rfl rfl g92 ?_
          exact J95 _ (pc 132 rfl (pc 2 rfl (pc 4 rfl (pc 5 rfl (pc 128 rfl pn)))))
         ·skip
          refine kl_gF rfl rfl g92 (kl_gF rfl rfl g92 (kl_gF rfl rfl g92 (kl_andF (decide (c.bound = (0 : Int))) rfl rfl g92 ?_)))
          exact J95 _ (pc 132 rfl (pc 2 rfl (pc 4 rfl (pc 5 rfl (pc 128 rfl pn)))))
        refine kl_mv rfl (kl_join 5 138 (.bool ((decide ((c.args.length : Int) = (0 : Int)) && decide (c.bound = (0 : Int))) && (rowsInB c.rows (c.vars.length : Int) (0 : Int) (5 : Int)))) (pc 4 rfl (pc 133 rfl pn)) (fun J99 => ?_) ?_)
        ·rcases Bool.eq_false_or_eq_true (decide ((c.args.length : Int) = (0 : Int)) && decide (c.bound = (0 : Int))) with g96 | g96
         ·skip
          have g96p := g96
          try simp only [Bool.not_eq_true', Bool.not_eq_false', decide_eq_true_eq, decide_eq_false_iff_not, Bool.and_eq_true, Bool.or_eq_false_iff, withinB_iff] at g96p
          refine kl_gT rfl rfl g96 (kl_fd rfl (by assumption) (fun p97 a98 => ?_))
          refine kl_gT rfl rfl g96 (kl_ld rfl (by assumption) (kl_gT rfl rfl g96 (kl_mv rfl (kl_gT rfl rfl g96 (kl_callP rfl rfl (validRows_ok c.rows (c.vars.length : Int) (0 : Int) (5 : Int) (by assumption)) ?_)))))
          refine kl_andT rfl rfl g96 ?_
          exact J99 _ (pc 138 rfl (pc 4 rfl (pc 133 rfl pn)))
         ·skip
          refine kl_gF rfl rfl g96 (kl_gF rfl rfl g96 (kl_gF rfl rfl g96 (kl_gF rfl rfl g96 (kl_andF (rowsInB c.rows (c.vars.length : Int) (0 : Int) (5 : Int)) rfl rfl g96 ?_))))
          exact J99 _ (pc 138 rfl (pc 4 rfl (pc 133 rfl pn)))
        refine kl_as rfl (kl_nil (kq_code (kc_ret (kq_retP rfl rfl (congrArg Value.bool ?_)))))
        exact conS_yes (by assumption) (by first | (exfalso; omega) | (simp only [fitsB, *]; first | rfl | (simp; done) | (simp; ac_rfl)))
       ·skip
        refine kc_seq (kc_region (kl_eql rfl rfl ?_))
        refine kl_as rfl (kl_nil (kq_code (kc_if rfl (fun c100 => ?_) (fun c100 => ?_))))
        ·skip
         refine kc_seq (kc_region (kl_fd rfl (by assumption) (fun p101 a102 => ?_)))
         refine kl_ld rfl (by assumption) (kl_len rfl (by assumption) (fun l103 => ?_))
         refine kl_eql rfl rfl ?_
         refine kl_mv rfl (kl_join 4 149 (.bool (decide ((c.args.length : Int) = (1 : Int)) && (allInB c.args (0 : Int) (5 : Int)))) (pc 2 rfl (pc 4 rfl (pc 145 rfl pn))) (fun J107 => ?_) ?_)
         ·rcases Bool.eq_false_or_eq_true (decide ((c.args.length : Int) = (1 : Int))) with g104 | g104
          ·skip
           have g104p := of_decide_eq_true g104
           refine kl_gT rfl rfl g104 (kl_fd rfl (by assumption) (fun p105 a106 => ?_))
           refine kl_gT rfl rfl g104 (kl_ld rfl (by assumption) (kl_gT rfl rfl g104 (kl_callP rfl rfl (allInRange_ok c.args (0 : Int) (5 : Int) (by assumption)) ?_)))
           refine kl_andT rfl rfl g104 ?_
           exact J107 _ (pc 149 rfl (pc 2 rfl (pc 4 rfl (pc 145 rfl pn))))
          ·skip
           refine kl_gF rfl rfl g104 (kl_gF rfl rfl g104 (kl_gF rfl rfl g104 (kl_andF (allInB c.args (0 : Int) (5 : Int)) rfl rfl g104 ?_)))
           exact J107 _ (pc 149 rfl (pc 2 rfl (pc 4 rfl (pc 145 rfl pn))))
         refine kl_mv rfl (kl_join 4 154 (.bool ((decide ((c.args.length : Int) = (1 : Int)) && (allInB c.args (0 : Int) (5 : Int))) && (withinB c.bound (0 : Int) (4 : Int)))) (pc 2 rfl (pc 4 rfl (pc 150 rfl pn))) (fun J111 => ?_) ?_)
         ·rcases Bool.eq_false_or_eq_true (decide ((c.args.length : Int) = (1 : Int)) && (allInB c.args (0 : Int) (5 : Int))) with g108 | g108
          ·skip
           have g108p := g108
           try simp only [Bool.not_eq_true', Bool.not_eq_false', decide_eq_true_eq, decide_eq_false_iff_not, Bool.and_eq_true, Bool.or_eq_false_iff, withinB_iff] at g108p
           refine kl_gT rfl rfl g108 (kl_fd rfl (by assumption) (fun p109 a110 => ?_))
           refine kl_gT rfl rfl g108 (kl_ld rfl (by assumption) (kl_gT rfl rfl g108 (kl_callP rfl rfl (inRange_ok c.bound (0 : Int) (4 : Int)) ?_)))
           refine kl_andT rfl rfl g108 ?_
           exact J111 _ (pc 154 rfl (pc 2 rfl (pc 4 rfl (pc 150 rfl pn))))
          ·skip
           refine kl_gF rfl rfl g108 (kl_gF rfl rfl g108 (kl_gF rfl rfl g108 (kl_andF (withinB c.bound (0 : Int) (4 : Int)) rfl rfl g108 ?_)))
           exact J111 _ (pc 154 rfl (pc 2 rfl (pc 4 rfl (pc 150 rfl pn))))
         refine kl_mv rfl (kl_join 5 160 (.bool (((decide ((c.args.length : Int) = (1 : Int)) && (allInB c.args (0 : Int) (5 : Int))) && (withinB c.bound (0 : Int) (4 : Int))) && decide ((c.rows.length : Int) = (0 : Int)))) (pc 4 rfl (pc 155 rfl pn)) (fun J116 => ?_) ?_)
         ·rcases Bool.eq_false_or_eq_true ((decide ((c.args.length : Int) = (1 : Int)) && (allInB c.args (0 : Int) (5 : Int))) && (withinB c.bound (0 : Int) (4 : Int))) with g112 | g112
          ·skip
           have g112p := g112
           try simp only [Bool.not_eq_true', Bool.not_eq_false', decide_eq_true_eq, decide_eq_false_iff_not, Bool.and_eq_true, Bool.or_eq_false_iff, withinB_iff] at g112p
           refine kl_gT rfl rfl g112 (kl_fd rfl (by assumption) (fun p113 a114 => ?_))
           refine kl_gT rfl rfl g112 (kl_ld rfl (by assumption) (kl_gT rfl rfl g112 (kl_len rfl (by assumption) (fun l115 => ?_))))
           refine kl_gT rfl rfl g112 (kl_eql rfl rfl ?_)
           refine kl_andT rfl rfl g112 ?_
           exact J116 _ (pc 160 rfl (pc 4 rfl (pc 155 rfl pn)))
          ·skip
           refine kl_gF rfl rfl g112 (kl_gF rfl rfl g112 (kl_gF rfl rfl g112 (kl_gF rfl rfl g112 (kl_andF (decide ((c.rows.length : Int) = (0 : Int))) rfl rfl g112 ?_))))
           exact J116 _ (pc 160 rfl (pc 4 rfl (pc 155 rfl pn)))
         refine kl_as rfl (kl_nil (kq_code (kc_ret (kq_retP rfl rfl (congrArg Value.bool ?_)))))
         exact conS_yes (by assumption) (by first | (exfalso; omega) | (simp only [fitsB, *]; first | rfl | (simp; done) | (simp; ac_rfl)))
        ·skip
         refine kc_seq (kc_region (kl_eql rfl rfl ?_))
         refine kl_as rfl (kl_nil (kq_code (kc_if rfl (fun c117 => ?_) (fun c117 => ?_))))
         ·skip
          refine kc_seq (kc_region (kl_fd rfl (by assumption) (fun p118 a119 => ?_)))
          refine kl_ld rfl (by assumption) (kl_len rfl (by assumption) (fun l120 => ?_))
          refine kl_mv rfl (kl_mul rfl rfl (by omega) ?_)
          refine kl_eql rfl rfl ?_
          refine kl_mv rfl (kl_join 4 173 (.bool (decide ((c.args.length : Int) = ((2 : Int) * (c.vars.length : Int))) && (allInB c.args (0 : Int) (9 : Int)))) (pc 2 rfl (pc 4 rfl (pc 169 rfl pn))) (fun J124 => ?_) ?_)
          ·rcases Bool.eq_false_or_eq_true (decide ((c.args.length : Int) = ((2 : Int) * (c.vars.length : Int)))) with g121 | g121
           ·skip
            have g121p := of_decide_eq_true g121
            refine kl_gT rfl rfl g121 (kl_fd rfl (by assumption) (fun p122 a123 => ?_))
            refine kl_gT rfl rfl g121 (kl_ld rfl (by assumption) (kl_gT rfl rfl g121 (kl_callP rfl rfl (allInRange_ok c.args (0 : Int) (9 : Int) (by assumption)) ?_)))
            refine kl_andT rfl rfl g121 ?_
            exact J124 _ (pc 173 rfl (pc 2 rfl (pc 4 rfl (pc 169 rfl pn))))
           ·skip
            refine kl_gF rfl rfl g121 (kl_gF rfl rfl g121 (kl_gF rfl rfl g121 (kl_andF (allInB c.args (0 : Int) (9 : Int)) rfl rfl g121 ?_)))
            exact J124 _ (pc 173 rfl (pc 2 rfl (pc 4 rfl (pc 169 rfl pn))))
          refine kl_mv rfl (kl_join 4 178 (.bool ((decide ((c.args.length : Int) = ((2 : Int) * (c.vars.length : Int))) && (allInB c.args (0 : Int) (9 : Int))) && (withinB c.bound (0 : Int) (9 : Int)))) (pc 2 rfl (pc 4 rfl (pc 174 rfl pn))) (fun J128 => ?_) ?_)
          ·rcases Bool.eq_false_or_eq_true (decide ((c.args.length : Int) = ((2 : Int) * (c.vars.length : Int))) && (allInB c.args (0 : Int) (9 : Int))) with g125 | g125
           ·skip
            have g125p := g125
            try simp only [Bool.not_eq_true', Bool.not_eq_false', decide_eq_true_eq, decide_eq_false_iff_not, Bool.and_eq_true, Bool.or_eq_false_iff, withinB_iff] at g125p
            refine kl_gT rfl rfl g125 (kl_fd rfl (by assumption) (fun p126 a127 => ?_))
            refine kl_gT rfl rfl g125 (kl_ld rfl (by assumption) (kl_gT rfl rfl g125 (kl_callP rfl rfl (inRange_ok c.bound (0 : Int) (9 : Int)) ?_)))
            refine kl_andT rfl rfl g125 ?_
            exact J128 _ (pc 178 rfl (pc 2 rfl (pc 4 rfl (pc 174 rfl pn))))
           ·skip
            refine kl_gF rfl rfl g125 (kl_gF rfl rfl g125 (kl_gF rfl rfl g125 (kl_andF (withinB c.bound (0 : Int) (9 : Int)) rfl rfl g125 ?_)))
            exact J128 _ (pc 178 rfl (pc 2 rfl (pc 4 rfl (pc 174 rfl pn))))
          refine kl_mv rfl (kl_join 5 184 (.bool (((decide ((c.args.length : Int) = ((2 : Int) * (c.vars.length : Int))) && (allInB c.args (0 : Int) (9 : Int))) && (withinB c.bound (0 : Int) (9 : Int))) && decide ((c.rows.length : Int) = (0 : Int)))) (pc 4 rfl (pc 179 rfl pn)) (fun J133 => ?_) ?_)
          ·rcases Bool.eq_false_or_eq_true ((decide ((c.args.length : Int) = ((2 : Int) * (c.vars.length : Int))) && (allInB c.args (0 : Int) (9 : Int))) && (withinB c.bound (0 : Int) (9 : Int))) with g129 | g129
           ·skip
            have g129p := g129
            try simp only [Bool.not_eq_true', Bool.not_eq_false', decide_eq_true_eq, decide_eq_false_iff_not, Bool.and_eq_true, Bool.or_eq_false_iff, withinB_iff] at g129p
            refine kl_gT rfl rfl g129 (kl_fd rfl (by assumption) (fun p130 a131 => ?_))
            refine kl_gT rfl rfl g129 (kl_ld rfl (by assumption) (kl_gT rfl rfl g129 (kl_len rfl (by assumption) (fun l132 => ?_))))
            refine kl_gT rfl rfl g129 (kl_eql rfl rfl ?_)
            refine kl_andT rfl rfl g129 ?_
            exact J133 _ (pc 184 rfl (pc 4 rfl (pc 179 rfl pn)))
           ·skip
            refine kl_gF rfl rfl g129 (kl_gF rfl rfl g129 (kl_gF rfl rfl g129 (kl_gF rfl rfl g129 (kl_andF (decide ((c.rows.length : Int) = (0 : Int))) rfl rfl g129 ?_))))
            exact J133 _ (pc 184 rfl (pc 4 rfl (pc 179 rfl pn)))
          refine kl_as rfl (kl_nil (kq_code (kc_ret (kq_retP rfl rfl (congrArg Value.bool ?_)))))
          exact conS_yes (by assumption) (by first | (exfalso; omega) | (simp only [fitsB, *]; first | rfl | (simp; done) | (simp; ac_rfl)))
         ·skip
          refine kc_seq (kc_region (kl_eql rfl rfl ?_))
          refine kl_as rfl (kl_nil (kq_code (kc_if rfl (fun c134 => ?_) (fun c134 => ?_))))
          ·skip
           refine kc_seq (kc_region (kl_fd rfl (by assumption) (fun p135 a136 => ?_)))
           refine kl_ld rfl (by assumption) (kl_fd rfl (by assumption) (fun p137 a138 => ?_))
           refine kl_ld rfl (by assumption) (kl_len rfl (by assumption) (fun l139 => ?_))
           refine kl_sub rfl rfl (by omega) ?_
           refine kl_callP rfl rfl (validRows_ok c.rows (6 : Int) (-1 : Int) ((c.rows.length : Int) - (1 : Int)) (by assumption)) ?_
           refine kl_mv rfl (kl_join 8 202 (.bool ((rowsInB c.rows (6 : Int) (-1 : Int) ((c.rows.length : Int) - (1 : Int))) && (allInB c.args (0 : Int) ((c.rows.length : Int) - (1 : Int))))) (pc 2 rfl (pc 4 rfl (pc 194 rfl pn))) (fun J146 => ?_) ?_)
           ·rcases Bool.eq_false_or_eq_true (rowsInB c.rows (6 : Int) (-1 : Int) ((c.rows.length : Int) - (1 : Int))) with g140 | g140
            ·skip
             have g140p := g140
             try simp only [Bool.not_eq_true', Bool.not_eq_false', decide_eq_true_eq, decide_eq_false_iff_not, Bool.and_eq_true, Bool.or_eq_false_iff, withinB_iff] at g140p
             refine kl_gT rfl rfl g140 (kl_fd rfl (by assumption) (fun p141 a142 => ?_))
             refine kl_gT rfl rfl g140 (kl_ld rfl (by assumption) (kl_gT rfl rfl g140 (kl_fd rfl (by assumption) (fun p143 a144 => ?_))))
             refine kl_gT rfl rfl g140 (kl_ld rfl (by assumption) (kl_gT rfl rfl g140 (kl_len rfl (by assumption) (fun l145 => ?_))))
             refine kl_gT rfl rfl g140 (kl_sub rfl rfl (by omega) ?_)
             refine kl_gT rfl rfl g140 (kl_callP rfl rfl (allInRange_ok c.args (0 : Int) ((c.rows.length : Int) - (1 : Int)) (by assumption)) ?_)
             refine kl_andT rfl rfl g140 ?_
             exact J146 _ (pc 202 rfl (pc 2 rfl (pc 4 rfl (pc 194 rfl pn))))
            ·skip
             refine kl_gF rfl rfl g140 (kl_gF rfl rfl g140 (kl_gF rfl rfl g140 (kl_gF rfl rfl g140 (kl_gF rfl rfl g140 (kl_gF rfl rfl g140 (kl_gF rfl rfl g140 (kl_andF (allInB c.args (0 : Int) ((c.rows.length : Int) - (1 : Int))) rfl rfl g140 ?_)))))))
             exact J146 _ (pc 202 rfl (pc 2 rfl (pc 4 rfl (pc 194 rfl pn))))
           refine kl_mv rfl (kl_join 4 207 (.bool (((rowsInB c.rows (6 : Int) (-1 : Int) ((c.rows.length : Int) - (1 : Int))) && (allInB c.args (0 : Int) ((c.rows.length : Int) - (1 : Int)))) && (distinctB c.args))) (pc 2 rfl (pc 4 rfl (pc 203 rfl pn))) (fun J150 => ?_) ?_)
           ·rcases Bool.eq_false_or_eq_true ((rowsInB c.rows (6 : Int) (-1 : Int) ((c.rows.length : Int) - (1 : Int))) && (allInB c.args (0 : Int) ((c.rows.length : Int) - (1 : Int)))) with g147 | g147
            ·skip
             have g147p := g147
             try simp only [Bool.not_eq_true', Bool.not_eq_false', decide_eq_true_eq, decide_eq_false_iff_not, Bool.and_eq_true, Bool.or_eq_false_iff, withinB_iff] at g147p
             refine kl_gT rfl rfl g147 (kl_fd rfl (by assumption) (fun p148 a149 => ?_))
             refine kl_gT rfl rfl g147 (kl_ld rfl (by assumption) (kl_gT rfl rfl g147 (kl_callP rfl rfl (sdistinct_ok c.args (by assumption)) ?_)))
             refine kl_andT rfl rfl g147 ?_
             exact J150 _ (pc 207 rfl (pc 2 rfl (pc 4 rfl (pc 203 rfl pn))))
            ·skip
             refine kl_gF rfl rfl g147 (kl_gF rfl rfl g147 (kl_gF rfl rfl g147 (kl_andF (distinctB c.args) rfl rfl g147 ?_)))
             exact J150 _ (pc 207 rfl (pc 2 rfl (pc 4 rfl (pc 203 rfl pn))))
           refine kl_mv rfl (kl_join 4 212 (.bool ((((rowsInB c.rows (6 : Int) (-1 : Int) ((c.rows.length : Int) - (1 : Int))) && (allInB c.args (0 : Int) ((c.rows.length : Int) - (1 : Int)))) && (distinctB c.args)) && decide (c.bound = (0 : Int)))) (pc 4 rfl (pc 208 rfl pn)) (fun J154 => ?_) ?_)
           ·rcases Bool.eq_false_or_eq_true (((rowsInB c.rows (6 : Int) (-1 : Int) ((c.rows.length : Int) - (1 : Int))) && (allInB c.args (0 : Int) ((c.rows.length : Int) - (1 : Int)))) && (distinctB c.args)) with g151 | g151
            ·skip
             have g151p := g151
             try simp only [Bool.not_eq_true', Bool.not_eq_false', decide_eq_true_eq, decide_eq_false_iff_not, Bool.and_eq_true, Bool.or_eq_false_iff, withinB_iff] at g151p
             refine kl_gT rfl rfl g151 (kl_fd rfl (by assumption) (fun p152 a153 => ?_))
             refine kl_gT rfl rfl g151 (kl_ld rfl (by assumption) (kl_gT rfl rfl g151 (kl_eql rfl rfl ?_)))
             refine kl_andT rfl rfl g151 ?_
             exact J154 _ (pc 212 rfl (pc 4 rfl (pc 208 rfl pn)))
            ·skip
             refine kl_gF rfl rfl g151 (kl_gF rfl rfl g151 (kl_gF rfl rfl g151 (kl_andF (decide (c.bound = (0 : Int))) rfl rfl g151 ?_)))
             exact J154 _ (pc 212 rfl (pc 4 rfl (pc 208 rfl pn)))
           refine kl_as rfl (kl_nil (kq_code (kc_ret (kq_retP rfl rfl (congrArg Value.bool ?_)))))
           exact conS_yes (by assumption) (by first | (exfalso; omega) | (simp only [fitsB, *]; first | rfl | (simp; done) | (simp; ac_rfl)))
          ·skip
           refine kc_skipQ (kq_code (kc_seq (kc_region (kl_as rfl (kl_nil (kq_code (kc_ret (kq_retP rfl rfl (congrArg Value.bool ?_)))))))))
           exact conS_yes (by assumption) (by first | (exfalso; omega) | (simp only [fitsB, *]; first | rfl | (simp; done) | (simp; ac_rfl)))
    ·skip
     refine kc_region (kl_eql rfl rfl ?_)
     refine kl_as rfl (kl_nil (kq_code (kc_if rfl (fun c155 => ?_) (fun c155 => ?_))))
     ·skip
      refine kc_seq (kc_region (kl_fd rfl (by assumption) (fun p156 a157 => ?_)))
      refine kl_ld rfl (by assumption) (kl_len rfl (by assumption) (fun l158 => ?_))
      refine kl_eql rfl rfl ?_
      refine kl_mv rfl (kl_join 4 89 (.bool (decide ((c.args.length : Int) = (0 : Int)) && decide (c.bound = (0 : Int)))) (pc 2 rfl (pc 4 rfl (pc 85 rfl pn))) (fun J162 => ?_) ?_)
      ·rcases Bool.eq_false_or_eq_true (decide ((c.args.length : Int) = (0 : Int))) with g159 | g159
       ·skip
        have g159p := of_decide_eq_true g159
        refine kl_gT rfl rfl g159 (kl_fd rfl (by assumption) (fun p160 a161 => ?_))
        refine kl_gT rfl rfl g159 (kl_ld rfl (by assumption) (kl_gT rfl rfl g159 (kl_eql rfl rfl ?_)))
        refine kl_andT rfl rfl g159 ?_
        exact J162 _ (pc 89 rfl (pc 2 rfl (pc 4 rfl (pc 85 rfl pn))))
       ·skip
        refine kl_gF rfl rfl g159 (kl_gF rfl rfl g159 (kl_gF rfl rfl g159 (kl_andF (decide (c.bound = (0 : Int))) rfl rfl g159 ?_)))
        exact J162 _ (pc 89 rfl (pc 2 rfl (pc 4 rfl (pc 85 rfl pn))))
      refine kl_mv rfl (kl_join 5 95 (.bool ((decide ((c.args.length : Int) = (0 : Int)) && decide (c.bound = (0 : Int))) && decide ((c.rows.length : Int) = (0 : Int)))) (pc 4 rfl (pc 90 rfl pn)) (fun J167 => ?_) ?_)
      ·rcases Bool.eq_false_or_eq_true (decide ((c.args.length : Int) = (0 : Int)) && decide (c.bound = (0 : Int))) with g163 | g163
       ·skip
        have g163p := g163
        try simp only [Bool.not_eq_true', Bool.not_eq_false', decide_eq_true_eq, decide_eq_false_iff_not, Bool.and_eq_true, Bool.or_eq_false_iff, withinB_iff] at g163p
        refine kl_gT rfl rfl g163 (kl_fd rfl (by assumption) (fun p164 a165 => ?_))
        refine kl_gT rfl rfl g163 (kl_ld rfl (by assumption) (kl_gT rfl rfl g163 (kl_len rfl (by assumption) (fun l166 => ?_))))
        refine kl_gT rfl rfl g163 (kl_eql rfl rfl ?_)
        refine kl_andT rfl rfl g163 ?_
        exact J167 _ (pc 95 rfl (pc 4 rfl (pc 90 rfl pn)))
       ·skip
        refine kl_gF rfl rfl g163 (kl_gF rfl rfl g163 (kl_gF rfl rfl g163 (kl_gF rfl rfl g163 (kl_andF (decide ((c.rows.length : Int) = (0 : Int))) rfl rfl g163 ?_))))
        exact J167 _ (pc 95 rfl (pc 4 rfl (pc 90 rfl pn)))
      refine kl_as rfl (kl_nil (kq_code (kc_ret (kq_retP rfl rfl (congrArg Value.bool ?_)))))
      exact conS_yes (by assumption) (by first | (exfalso; omega) | (simp only [fitsB, *]; first | rfl | (simp; done) | (simp; ac_rfl)))
     ·skip
      refine kc_seq (kc_region (kl_eql rfl rfl ?_))
      refine kl_as rfl (kl_nil (kq_code (kc_if rfl (fun c168 => ?_) (fun c168 => ?_))))
      ·skip
       refine kc_seq (kc_region (kl_mv rfl (kl_eql rfl rfl ?_)))
       refine kl_mv rfl (kl_join 5 105 (.bool (decide ((c.vars.length : Int) = (2 : Int)) && (withinB (c.args.length : Int) (1 : Int) (6 : Int)))) (pc 2 rfl (pc 4 rfl (pc 100 rfl pn))) (fun J173 => ?_) ?_)
       ·rcases Bool.eq_false_or_eq_true (decide ((c.vars.length : Int) = (2 : Int))) with g169 | g169
        ·skip
         have g169p := of_decide_eq_true g169
         refine kl_gT rfl rfl g169 (kl_fd rfl (by assumption) (fun p170 a171 => ?_))
         refine kl_gT rfl rfl g169 (kl_ld rfl (by assumption) (kl_gT rfl rfl g169 (kl_len rfl (by assumption) (fun l172 => ?_))))
         refine kl_gT rfl rfl g169 (kl_callP rfl rfl (inRange_ok (c.args.length : Int) (1 : Int) (6 : Int)) ?_)
         refine kl_andT rfl rfl g169 ?_
         exact J173 _ (pc 105 rfl (pc 2 rfl (pc 4 rfl (pc 100 rfl pn))))
        ·skip
         refine kl_gF rfl rfl g169 (kl_gF rfl rfl g169 (kl_gF rfl rfl g169 (kl_gF rfl rfl g169 (kl_andF (withinB (c.args.length : Int) (1 : Int) (6 : Int)) rfl rfl g169 ?_))))
         exact J173 _ (pc 105 rfl (pc 2 rfl (pc 4 rfl (pc 100 rfl pn))))
       refine kl_mv rfl (kl_join 4 110 (.bool ((decide ((c.vars.length : Int) = (2 : Int)) && (withinB (c.args.length : Int) (1 : Int) (6 : Int))) && (allInB c.args (0 : Int) (5 : Int)))) (pc 2 rfl (pc 4 rfl (pc 106 rfl pn))) (fun J177 => ?_) ?_)
       ·rcases Bool.eq_false_or_eq_true (decide ((c.vars.length : Int) = (2 : Int)) && (withinB (c.args.length : Int) (1 : Int) (6 : Int))) with g174 | g174
        ·skip
         have g174p := g174
         try simp only [Bool.not_eq_true', Bool.not_eq_false', decide_eq_true_eq, decide_eq_false_iff_not, Bool.and_eq_true, Bool.or_eq_false_iff, withinB_iff] at g174p
         refine kl_gT rfl rfl g174 (kl_fd rfl (by assumption) (fun p175 a176 => ?_))
         refine kl_gT rfl rfl g174 (kl_ld rfl (by assumption) (kl_gT rfl rfl g174 (kl_callP rfl rfl (allInRange_ok c.args (0 : Int) (5 : Int) (by assumption)) ?_)))
         refine kl_andT rfl rfl g174 ?_
         exact J177 _ (pc 110 rfl (pc 2 rfl (pc 4 rfl (pc 106 rfl pn))))
        ·skip
         refine kl_gF rfl rfl g174 (kl_gF rfl rfl g174 (kl_gF rfl rfl g174 (kl_andF (allInB c.args (0 : Int) (5 : Int)) rfl rfl g174 ?_)))
         exact J177 _ (pc 110 rfl (pc 2 rfl (pc 4 rfl (pc 106 rfl pn))))
       refine kl_mv rfl (kl_join 4 115 (.bool (((decide ((c.vars.length : Int) = (2 : Int)) && (withinB (c.args.length : Int) (1 : Int) (6 : Int))) && (allInB c.args (0 : Int) (5 : Int))) && decide (c.bound = (0 : Int)))) (pc 2 rfl (pc 4 rfl (pc 111 rfl pn))) (fun J181 => ?_) ?_)
       ·rcases Bool.eq_false_or_eq_true ((decide ((c.vars.length : Int) = (2 : Int)) && (withinB (c.args.length : Int) (1 : Int) (6 : Int))) && (allInB c.args (0 : Int) (5 : Int))) with g178 | g178
        ·skip
         have g178p := g178
         try simp only [Bool.not_eq_true', Bool.not_eq_false', decide_eq_true_eq, decide_eq_false_iff_not, Bool.and_eq_true, Bool.or_eq_false_iff, withinB_iff] at g178p
         refine kl_gT rfl rfl g178 (kl_fd rfl (by assumption) (fun p179 a180 => ?_))
         refine kl_gT rfl rfl g178 (kl_ld rfl (by assumption) (kl_gT rfl rfl g178 (kl_eql rfl rfl ?_)))
         refine kl_andT rfl rfl g178 ?_
         exact J181 _ (pc 115 rfl (pc 2 rfl (pc 4 rfl (pc 111 rfl pn))))
        ·skip
         refine kl_gF rfl rfl g178 (kl_gF rfl rfl g178 (kl_gF rfl rfl g178 (kl_andF (decide (c.bound = (0 : Int))) rfl rfl g178 ?_)))
         exact J181 _ (pc 115 rfl (pc 2 rfl (pc 4 rfl (pc 111 rfl pn))))
       refine kl_mv rfl (kl_join 5 121 (.bool ((((decide ((c.vars.length : Int) = (2 : Int)) && (withinB (c.args.length : Int) (1 : Int) (6 : Int))) && (allInB c.args (0 : Int) (5 : Int))) && decide (c.bound = (0 : Int))) && decide ((c.rows.length : Int) = (0 : Int)))) (pc 4 rfl (pc 116 rfl pn)) (fun J186 => ?_) ?_)
       ·rcases Bool.eq_false_or_eq_true (((decide ((c.vars.length : Int) = (2 : Int)) && (withinB (c.args.length : Int) (1 : Int) (6 : Int))) && (allInB c.args (0 : Int) (5 : Int))) && decide (c.bound = (0 : Int))) with g182 | g182
        ·skip
         have g182p := g182
         try simp only [Bool.not_eq_true', Bool.not_eq_false', decide_eq_true_eq, decide_eq_false_iff_not, Bool.and_eq_true, Bool.or_eq_false_iff, withinB_iff] at g182p
         refine kl_gT rfl rfl g182 (kl_fd rfl (by assumption) (fun p183 a184 => ?_))
         refine kl_gT rfl rfl g182 (kl_ld rfl (by assumption) (kl_gT rfl rfl g182 (kl_len rfl (by assumption) (fun l185 => ?_))))
         refine kl_gT rfl rfl g182 (kl_eql rfl rfl ?_)
         refine kl_andT rfl rfl g182 ?_
         exact J186 _ (pc 121 rfl (pc 4 rfl (pc 116 rfl pn)))
        ·skip
         refine kl_gF rfl rfl g182 (kl_gF rfl rfl g182 (kl_gF rfl rfl g182 (kl_gF rfl rfl g182 (kl_andF (decide ((c.rows.length : Int) = (0 : Int))) rfl rfl g182 ?_))))
         exact J186 _ (pc 121 rfl (pc 4 rfl (pc 116 rfl pn)))
       refine kl_as rfl (kl_nil (kq_code (kc_ret (kq_retP rfl rfl (congrArg Value.bool ?_)))))
       exact conS_yes (by assumption) (by first | (exfalso; omega) | (simp only [fitsB, *]; first | rfl | (simp; done) | (simp; ac_rfl)))
      ·skip
       refine kc_seq (kc_region (kl_eql rfl rfl ?_))
       refine kl_as rfl (kl_nil (kq_code (kc_if rfl (fun c187 => ?_) (fun c187 => ?_))))
       ·skip
        refine kc_seq (kc_region (kl_fd rfl (by assumption) (fun p188 a189 => ?_)))
        refine kl_ld rfl (by assumption) (kl_len rfl (by assumption) (fun l190 => ?_))
        refine kl_eql rfl rfl ?_
        refine kl_mv rfl (kl_join 4 132 (.bool (decide ((c.args.length : Int) = (0 : Int)) && decide (c.bound = (0 : Int)))) (pc 2 rfl (pc 4 rfl (pc 5 rfl (pc 128 rfl pn)))) (fun J194 => ?_) ?_)
        ·rcases Bool.eq_false_or_eq_true (decide ((c.args.length : Int) = (0 : Int))) with g191 | g191
         ·skip
          have g191p := of_decide_eq_true g191
          refine kl_gT rfl rfl g191 (kl_fd rfl (by assumption) (fun p192 a193 => ?_))
          refine kl_gT rfl rfl g191 (kl_ld rfl (by assumption) (kl_gT rfl rfl g191 (kl_eql rfl rfl ?_)))
          refine kl_andT rfl rfl g191 ?_
          exact J194 _ (pc 132 rfl (pc 2 rfl (pc 4 rfl (pc 5 rfl (pc 128 rfl pn)))))
         ·skip
          refine kl_gF rfl rfl g191 (kl_gF rfl rfl g191 (kl_gF rfl rfl g191 (kl_andF (decide (c.bound = (0 : Int))) rfl rfl g191 ?_)))
          exact J194 _ (pc 132 rfl (pc 2 rfl (pc 4 rfl (pc 5 rfl (pc 128 rfl pn)))))
        refine kl_mv rfl (kl_join 5 138 (.bool ((decide ((c.args.length : Int) = (0 : Int)) && decide (c.bound = (0 : Int))) && (rowsInB c.rows (c.vars.length : Int) (0 : Int) (5 : Int)))) (pc 4 rfl (pc 133 rfl pn)) (fun J198 => ?_) ?_)
        ·rcases Bool.eq_false_or_eq_true (decide ((c.args.length : Int) = (0 : Int)) && decide (c.bound = (0 : Int))) with g195 | g195
         ·skip
          have g195p := g195
          try simp only [Bool.not_eq_true', Bool.not_eq_false', decide_eq_true_eq, decide_eq_false_iff_not, Bool.and_eq_true, Bool.or_eq_false_iff, withinB_iff] at g195p
          refine kl_gT rfl rfl g195 (kl_fd rfl (by assumption) (fun p196 a197 => ?_))
          refine kl_gT rfl rfl g195 (kl_ld rfl (by assumption) (kl_gT rfl rfl g195 (kl_mv rfl (kl_gT rfl rfl g195 (kl_callP rfl rfl (validRows_ok c.rows (c.vars.length : Int) (0 : Int) (5 : Int) (by assumption)) ?_)))))
          refine kl_andT rfl rfl g195 ?_
          exact J198 _ (pc 138 rfl (pc 4 rfl (pc 133 rfl pn)))
         ·skip
          refine kl_gF rfl rfl g195 (kl_gF rfl rfl g195 (kl_gF rfl rfl g195 (kl_gF rfl rfl g195 (kl_andF (rowsInB c.rows (c.vars.length : Int) (0 : Int) (5 : Int)) rfl rfl g195 ?_))))
          exact J198 _ (pc 138 rfl (pc 4 rfl (pc 133 rfl pn)))
        refine kl_as rfl (kl_nil (kq_code (kc_ret (kq_retP rfl rfl (congrArg Value.bool ?_)))))
        exact conS_yes (by assumption) (by first | (exfalso; omega) | (simp only [fitsB, *]; first | rfl | (simp; done) | (simp; ac_rfl)))
       ·skip
        refine kc_seq (kc_region (kl_eql rfl rfl ?_))
        refine kl_as rfl (kl_nil (kq_code (kc_if rfl (fun c199 => ?_) (fun c199 => ?_))))
        ·skip
         refine kc_seq (kc_region (kl_fd rfl (by assumption) (fun p200 a201 => ?_)))
         refine kl_ld rfl (by assumption) (kl_len rfl (by assumption) (fun l202 => ?_))
         refine kl_eql rfl rfl ?_
         refine kl_mv rfl (kl_join 4 149 (.bool (decide ((c.args.length : Int) = (1 : Int)) && (allInB c.args (0 : Int) (5 : Int)))) (pc 2 rfl (pc 4 rfl (pc 145 rfl pn))) (fun J206 => ?_) ?_)
         ·rcases Bool.eq_false_or_eq_true (decide ((c.args.length : Int) = (1 : Int))) with g203 | g203
          ·skip
           have g203p := of_decide_eq_true g203
           refine kl_gT rfl rfl g203 (kl_fd rfl (by assumption) (fun p204 a205 => ?_))
           refine kl_gT rfl rfl g203 (kl_ld rfl (by assumption) (kl_gT rfl rfl g203 (kl_callP rfl rfl (allInRange_ok c.args (0 : Int) (5 : Int) (by assumption)) ?_)))
           refine kl_andT rfl rfl g203 ?_
           exact J206 _ (pc 149 rfl (pc 2 rfl (pc 4 rfl (pc 145 rfl pn))))
          ·skip
           refine kl_gF rfl rfl g203 (kl_gF rfl rfl g203 (kl_gF rfl rfl g203 (kl_andF (allInB c.args (0 : Int) (5 : Int)) rfl rfl g203 ?_)))
           exact J206 _ (pc 149 rfl (pc 2 rfl (pc 4 rfl (pc 145 rfl pn))))
         refine kl_mv rfl (kl_join 4 154 (.bool ((decide ((c.args.length : Int) = (1 : Int)) && (allInB c.args (0 : Int) (5 : Int))) && (withinB c.bound (0 : Int) (4 : Int)))) (pc 2 rfl (pc 4 rfl (pc 150 rfl pn))) (fun J210 => ?_) ?_)
         ·rcases Bool.eq_false_or_eq_true (decide ((c.args.length : Int) = (1 : Int)) && (allInB c.args (0 : Int) (5 : Int))) with g207 | g207
          ·skip
           have g207p := g207
           try simp only [Bool.not_eq_true', Bool.not_eq_false', decide_eq_true_eq, decide_eq_false_iff_not, Bool.and_eq_true, Bool.or_eq_false_iff, withinB_iff] at g207p
           refine kl_gT rfl rfl g207 (kl_fd rfl (by assumption) (fun p208 a209 => ?_))
           refine kl_gT rfl rfl g207 (kl_ld rfl (by assumption) (kl_gT rfl rfl g207 (kl_callP rfl rfl (inRange_ok c.bound (0 : Int) (4 : Int)) ?_)))
           refine kl_andT rfl rfl g207 ?_
           exact J210 _ (pc 154 rfl (pc 2 rfl (pc 4 rfl (pc 150 rfl pn))))
          ·skip
           refine kl_gF rfl rfl g207 (kl_gF rfl rfl g207 (kl_gF rfl rfl g207 (kl_andF (withinB c.bound (0 : Int) (4 : Int)) rfl rfl g207 ?_)))
           exact J210 _ (pc 154 rfl (pc 2 rfl (pc 4 rfl (pc 150 rfl pn))))
         refine kl_mv rfl (kl_join 5 160 (.bool (((decide ((c.args.length : Int) = (1 : Int)) && (allInB c.args (0 : Int) (5 : Int))) && (withinB c.bound (0 : Int) (4 : Int))) && decide ((c.rows.length : Int) = (0 : Int)))) (pc 4 rfl (pc 155 rfl pn)) (fun J215 => ?_) ?_)
         ·rcases Bool.eq_false_or_eq_true ((decide ((c.args.length : Int) = (1 : Int)) && (allInB c.args (0 : Int) (5 : Int))) && (withinB c.bound (0 : Int) (4 : Int))) with g211 | g211
          ·skip
           have g211p := g211
           try simp only [Bool.not_eq_true', Bool.not_eq_false', decide_eq_true_eq, decide_eq_false_iff_not, Bool.and_eq_true, Bool.or_eq_false_iff, withinB_iff] at g211p
           refine kl_gT rfl rfl g211 (kl_fd rfl (by assumption) (fun p212 a213 => ?_))
           refine kl_gT rfl rfl g211 (kl_ld rfl (by assumption) (kl_gT rfl rfl g211 (kl_len rfl (by assumption) (fun l214 => ?_))))
           refine kl_gT rfl rfl g211 (kl_eql rfl rfl ?_)
           refine kl_andT rfl rfl g211 ?_
           exact J215 _ (pc 160 rfl (pc 4 rfl (pc 155 rfl pn)))
          ·skip
           refine kl_gF rfl rfl g211 (kl_gF rfl rfl g211 (kl_gF rfl rfl g211 (kl_gF rfl rfl g211 (kl_andF (decide ((c.rows.length : Int) = (0 : Int))) rfl rfl g211 ?_))))
           exact J215 _ (pc 160 rfl (pc 4 rfl (pc 155 rfl pn)))
         refine kl_as rfl (kl_nil (kq_code (kc_ret (kq_retP rfl rfl (congrArg Value.bool ?_)))))
         exact conS_yes (by assumption) (by first | (exfalso; omega) | (simp only [fitsB, *]; first | rfl | (simp; done) | (simp; ac_rfl)))
        ·skip
         refine kc_seq (kc_region (kl_eql rfl rfl ?_))
         refine kl_as rfl (kl_nil (kq_code (kc_if rfl (fun c216 => ?_) (fun c216 => ?_))))
         ·skip
          refine kc_seq (kc_region (kl_fd rfl (by assumption) (fun p217 a218 => ?_)))
          refine kl_ld rfl (by assumption) (kl_len rfl (by assumption) (fun l219 => ?_))
          refine kl_mv rfl (kl_mul rfl rfl (by omega) ?_)
          refine kl_eql rfl rfl ?_
          refine kl_mv rfl (kl_join 4 173 (.bool (decide ((c.args.length : Int) = ((2 : Int) * (c.vars.length : Int))) && (allInB c.args (0 : Int) (9 : Int)))) (pc 2 rfl (pc 4 rfl (pc 169 rfl pn))) (fun J223 => ?_) ?_)
          ·rcases Bool.eq_false_or_eq_true (decide ((c.args.length : Int) = ((2 : Int) * (c.vars.length : Int)))) with g220 | g220
           ·skip
            have g220p := of_decide_eq_true g220
            refine kl_gT rfl rfl g220 (kl_fd rfl (by assumption) (fun p221 a222 => ?_))
            refine kl_gT rfl rfl g220 (kl_ld rfl (by assumption) (kl_gT rfl rfl g220 (kl_callP rfl rfl (allInRange_ok c.args (0 : Int) (9 : Int) (by assumption)) ?_)))
            refine kl_andT rfl rfl g220 ?_
            exact J223 _ (pc 173 rfl (pc 2 rfl (pc 4 rfl (pc 169 rfl pn))))
           ·skip
            refine kl_gF rfl rfl g220 (kl_gF rfl rfl g220 (kl_gF rfl rfl g220 (kl_andF (allInB c.args (0 : Int) (9 : Int)) rfl rfl g220 ?_)))
            exact J223 _ (pc 173 rfl (pc 2 rfl (pc 4 rfl (pc 169 rfl pn))))
          refine kl_mv rfl (kl_join 4 178 (.bool ((decide ((c.args.length : Int) = ((2 : Int) * (c.vars.length : Int))) && (allInB c.args (0 : Int) (9 : Int))) && (withinB c.bound (0 : Int) (9 : Int)))) (pc 2 rfl (pc 4 rfl (pc 174 rfl pn))) (fun J227 => ?_) ?_)
          ·rcases Bool.eq_false_or_eq_true (decide ((c.args.length : Int) = ((2 : Int) * (c.vars.length : Int))) && (allInB c.args (0 : Int) (9 : Int))) with g224 | g224
           ·skip
            have g224p := g224
            try simp only [Bool.not_eq_true', Bool.not_eq_false', decide_eq_true_eq, decide_eq_false_iff_not, Bool.and_eq_true, Bool.or_eq_false_iff, withinB_iff] at g224p
            refine kl_gT rfl rfl g224 (kl_fd rfl (by assumption) (fun p225 a226 => ?_))
            refine kl_gT rfl rfl g224 (kl_ld rfl (by assumption) (kl_gT rfl rfl g224 (kl_callP rfl rfl (inRange_ok c.bound (0 : Int) (9 : Int)) ?_)))
            refine kl_andT rfl rfl g224 ?_
            exact J227 _ (pc 178 rfl (pc 2 rfl (pc 4 rfl (pc 174 rfl pn))))
           ·skip
            refine kl_gF rfl rfl g224 (kl_gF rfl rfl g224 (kl_gF rfl rfl g224 (kl_andF (withinB c.bound (0 : Int) (9 : Int)) rfl rfl g224 ?_)))
            exact J227 _ (pc 178 rfl (pc 2 rfl (pc 4 rfl (pc 174 rfl pn))))
          refine kl_mv rfl (kl_join 5 184 (.bool (((decide ((c.args.length : Int) = ((2 : Int) * (c.vars.length : Int))) && (allInB c.args (0 : Int) (9 : Int))) && (withinB c.bound (0 : Int) (9 : Int))) && decide ((c.rows.length : Int) = (0 : Int)))) (pc 4 rfl (pc 179 rfl pn)) (fun J232 => ?_) ?_)
          ·rcases Bool.eq_false_or_eq_true ((decide ((c.args.length : Int) = ((2 : Int) * (c.vars.length : Int))) && (allInB c.args (0 : Int) (9 : Int))) && (withinB c.bound (0 : Int) (9 : Int))) with g228 | g228
           ·skip
            have g228p := g228
            try simp only [Bool.not_eq_true', Bool.not_eq_false', decide_eq_true_eq, decide_eq_false_iff_not, Bool.and_eq_true, Bool.or_eq_false_iff, withinB_iff] at g228p
            refine kl_gT rfl rfl g228 (kl_fd rfl (by assumption) (fun p229 a230 => ?_))
            refine kl_gT rfl rfl g228 (kl_ld rfl (by assumption) (kl_gT rfl rfl g228 (kl_len rfl (by assumption) (fun l231 => ?_))))
            refine kl_gT rfl rfl g228 (kl_eql rfl rfl ?_)
            refine kl_andT rfl rfl g228 ?_
            exact J232 _ (pc 184 rfl (pc 4 rfl (pc 179 rfl pn)))
           ·skip
            refine kl_gF rfl rfl g228 (kl_gF rfl rfl g228 (kl_gF rfl rfl g228 (kl_gF rfl rfl g228 (kl_andF (decide ((c.rows.length : Int) = (0 : Int))) rfl rfl g228 ?_))))
            exact J232 _ (pc 184 rfl (pc 4 rfl (pc 179 rfl pn)))
          refine kl_as rfl (kl_nil (kq_code (kc_ret (kq_retP rfl rfl (congrArg Value.bool ?_)))))
          exact conS_yes (by assumption) (by first | (exfalso; omega) | (simp only [fitsB, *]; first | rfl | (simp; done) | (simp; ac_rfl)))
         ·skip
          refine kc_seq (kc_region (kl_eql rfl rfl ?_))
          refine kl_as rfl (kl_nil (kq_code (kc_if rfl (fun c233 => ?_) (fun c233 => ?_))))
          ·skip
           refine kc_seq (kc_region (kl_fd rfl (by assumption) (fun p234 a235 => ?_)))
           refine kl_ld rfl (by assumption) (kl_fd rfl (by assumption) (fun p236 a237 => ?_))
           refine kl_ld rfl (by assumption) (kl_len rfl (by assumption) (fun l238 => ?_))
           refine kl_sub rfl rfl (by omega) ?_
           refine kl_callP rfl rfl (validRows_ok c.rows (6 : Int) (-1 : Int) ((c.rows.length : Int) - (1 : Int)) (by assumption)) ?_
           refine kl_mv rfl (kl_join 8 202 (.bool ((rowsInB c.rows (6 : Int) (-1 : Int) ((c.rows.length : Int) - (1 : Int))) && (allInB c.args (0 : Int) ((c.rows.length : Int) - (1 : Int))))) (pc 2 rfl (pc 4 rfl (pc 194 rfl pn))) (fun J245 => ?_) ?_)
           ·rcases Bool.eq_false_or_eq_true (rowsInB c.rows (6 : Int) (-1 : Int) ((c.rows.length : Int) - (1 : Int))) with g239 | g239
            ·skip
             have g239p := g239
             try simp only [Bool.not_eq_true', Bool.not_eq_false', decide_eq_true_eq, decide_eq_false_iff_not, Bool.and_eq_true, Bool.or_eq_false_iff, withinB_iff] at g239p
             refine kl_gT rfl rfl g239 (kl_fd rfl (by assumption) (fun p240 a241 => ?_))
             refine kl_gT rfl rfl g239 (kl_ld rfl (by assumption) (kl_gT rfl rfl g239 (kl_fd rfl (by assumption) (fun p242 a243 => ?_))))
             refine kl_gT rfl rfl g239 (kl_ld rfl (by assumption) (kl_gT rfl rfl g239 (kl_len rfl (by assumption) (fun l244 => ?_))))
             refine kl_gT rfl rfl g239 (kl_sub rfl rfl (by omega) ?_)
             refine kl_gT rfl rfl g239 (kl_callP rfl rfl (allInRange_ok c.args (0 : Int) ((c.rows.length : Int) - (1 : Int)) (by assumption)) ?_)
             refine kl_andT rfl rfl g239 ?_
             exact J245 _ (pc 202 rfl (pc 2 rfl (pc 4 rfl (pc 194 rfl pn))))
            ·skip
             refine kl_gF rfl rfl g239 (kl_gF rfl rfl g239 (kl_gF rfl rfl g239 (kl_gF rfl rfl g239 (kl_gF rfl rfl g239 (kl_gF rfl rfl g239 (kl_gF rfl rfl g239 (kl_andF (allInB c.args (0 : Int) ((c.rows.length : Int) - (1 : Int))) rfl rfl g239 ?_)))))))
             exact J245 _ (pc 202 rfl (pc 2 rfl (pc 4 rfl (pc 194 rfl pn))))
           refine kl_mv rfl (kl_join 4 207 (.bool (((rowsInB c.rows (6 : Int) (-1 : Int) ((c.rows.length : Int) - (1 : Int))) && (allInB c.args (0 : Int) ((c.rows.length : Int) - (1 : Int)))) && (distinctB c.args))) (pc 2 rfl (pc 4 rfl (pc 203 rfl pn))) (fun J249 => ?_) ?_)
           ·rcases Bool.eq_false_or_eq_true ((rowsInB c.rows (6 : Int) (-1 : Int) ((c.rows.length : Int) - (1 : Int))) && (allInB c.args (0 : Int) ((c.rows.length : Int) - (1 : Int)))) with g246 | g246
            ·skip
             have g246p := g246
             try simp only [Bool.not_eq_true', Bool.not_eq_false', decide_eq_true_eq, decide_eq_false_iff_not, Bool.and_eq_true, Bool.or_eq_false_iff, withinB_iff] at g246p
             refine kl_gT rfl rfl g246 (kl_fd rfl (by assumption) (fun p247 a248 => ?_))
             refine kl_gT rfl rfl g246 (kl_ld rfl (by assumption) (kl_gT rfl rfl g246 (kl_callP rfl rfl (sdistinct_ok c.args (by assumption)) ?_)))
             refine kl_andT rfl rfl g246 ?_
             exact J249 _ (pc 207 rfl (pc 2 rfl (pc 4 rfl (pc 203 rfl pn))))
            ·skip
             refine kl_gF rfl rfl g246 (kl_gF rfl rfl g246 (kl_gF rfl rfl g246 (kl_andF (distinctB c.args) rfl rfl g246 ?_)))
             exact J249 _ (pc 207 rfl (pc 2 rfl (pc 4 rfl (pc 203 rfl pn))))
           refine kl_mv rfl (kl_join 4 212 (.bool ((((rowsInB c.rows (6 : Int) (-1 : Int) ((c.rows.length : Int) - (1 : Int))) && (allInB c.args (0 : Int) ((c.rows.length : Int) - (1 : Int)))) && (distinctB c.args)) && decide (c.bound = (0 : Int)))) (pc 4 rfl (pc 208 rfl pn)) (fun J253 => ?_) ?_)
           ·rcases Bool.eq_false_or_eq_true (((rowsInB c.rows (6 : Int) (-1 : Int) ((c.rows.length : Int) - (1 : Int))) && (allInB c.args (0 : Int) ((c.rows.length : Int) - (1 : Int)))) && (distinctB c.args)) with g250 | g250
            ·skip
             have g250p := g250
             try simp only [Bool.not_eq_true', Bool.not_eq_false', decide_eq_true_eq, decide_eq_false_iff_not, Bool.and_eq_true, Bool.or_eq_false_iff, withinB_iff] at g250p
             refine kl_gT rfl rfl g250 (kl_fd rfl (by assumption) (fun p251 a252 => ?_))
             refine kl_gT rfl rfl g250 (kl_ld rfl (by assumption) (kl_gT rfl rfl g250 (kl_eql rfl rfl ?_)))
             refine kl_andT rfl rfl g250 ?_
             exact J253 _ (pc 212 rfl (pc 4 rfl (pc 208 rfl pn)))
            ·skip
             refine kl_gF rfl rfl g250 (kl_gF rfl rfl g250 (kl_gF rfl rfl g250 (kl_andF (decide (c.bound = (0 : Int))) rfl rfl g250 ?_)))
             exact J253 _ (pc 212 rfl (pc 4 rfl (pc 208 rfl pn)))
           refine kl_as rfl (kl_nil (kq_code (kc_ret (kq_retP rfl rfl (congrArg Value.bool ?_)))))
           exact conS_yes (by assumption) (by first | (exfalso; omega) | (simp only [fitsB, *]; first | rfl | (simp; done) | (simp; ac_rfl)))
          ·skip
           refine kc_skipQ (kq_code (kc_seq (kc_region (kl_as rfl (kl_nil (kq_code (kc_ret (kq_retP rfl rfl (congrArg Value.bool ?_)))))))))
           exact conS_yes (by assumption) (by first | (exfalso; omega) | (simp only [fitsB, *]; first | rfl | (simp; done) | (simp; ac_rfl)))
theorem svalidMod_ok {Hmd : Hp} {vmd : Value} {Hmc : Hp} {vmc : Value} (m : Mod) (hmd : Ints Hmd vmd m.doms) (hmc : Cons Hmc vmc m.cons) : SpecP Tryz.prog 35 [.agg #[vmd, vmc]] [Hmd, Hmc] (.bool (validModB m)) := by
 refine spec_of Tryz.func35 rfl rfl rfl (fun B => ?_)
 refine kc_seq (kc_region (kl_box rfl rfl (fun p1 H2 f3 a4 => ?_)))
 refine kl_as rfl (kl_nil (kq_code (kc_seq (kc_seq (kc_region (kl_as rfl (kl_nil (kq_code (kc_block (kc_loop0 (A := Nat) (fun zz => (zz ≤ m.doms.length) ∧ ((m.doms.take zz).all validDomB = true)) (fun zz => m.doms.length - zz) (fun zz => [(3, .int .i64 (zz : Int))]) (0) (pc 1 rfl pn) (pc 3 rfl pn) ⟨Nat.zero_le _, by simp⟩ ?_))))))))))
 rintro k hJ7
 obtain ⟨hk5, hi6⟩ : (k ≤ m.doms.length) ∧ ((m.doms.take k).all validDomB = true) := hJ7
 change KC _ _ (_) _ _ ([(3, .int .i64 (k : Int))] ++ _)
 refine kc_seq (kc_seq (kc_region (kl_mv rfl (kl_fd rfl (by assumption) (fun p8 a9 => ?_)))))
 refine kl_ld rfl (by assumption) (kl_len rfl (by assumption) (fun l10 => ?_))
 refine kl_lss rfl rfl ?_
 refine kl_nil (kq_code (kc_if rfl (fun c11 => ?_) (fun c11 => ?_)))
 ·skip
  refine kc_skipQ (kq_code (kc_seq (kc_block (kc_seq (kc_region (kl_fd rfl (by assumption) (fun p12 a13 => ?_)))))))
  refine kl_ld rfl (by assumption) (kl_mv rfl (kl_inI rfl rfl (by assumption) (by omega) (fun p14 a15 => ?_)))
  refine kl_ld rfl (by assumption) (kl_callP rfl rfl (validDomain_ok (m.doms.getD k 0)) ?_)
  refine kl_not rfl (kl_nil (kq_code (kc_cond rfl (fun c16 => ?_) (fun c16 => ?_))))
  ·skip
   have c16r := c16
   try simp only [smpC, decide_eq_true_eq, decide_eq_false_iff_not] at c16
   refine kc_seq (kc_region (kl_as rfl (kl_nil (kq_code (kc_ret (kq_retP rfl rfl (congrArg Value.bool ?_)))))))
   exact validModB_d (k := k) (by omega) (by assumption)
  ·skip
   have c16r := c16
   try simp only [smpC, decide_eq_true_eq, decide_eq_false_iff_not] at c16
   refine kc_skipQ (kq_code (kc_region (kl_mv rfl (kl_inc rfl rfl (by omega) ?_))))
   refine kl_as rfl (kl_nil (kq_round0 ((k + 1)) (by omega) (⟨by omega, all_take_step (d := 0) (by omega) hi6 (by assumption)⟩) (pc 3 rfl pn) (pc 1 rfl pn) (List.Sublist.refl _)))
 ·skip
  refine kc_exit (kq_code (kc_seq (kc_seq (kc_region (kl_as rfl (kl_nil (kq_code (kc_block (kc_loop0 (A := Nat) (fun zz => (zz ≤ m.cons.length) ∧ ((m.cons.take zz).all (fun c => validConS c m.doms.length) = true)) (fun zz => m.cons.length - zz) (fun zz => [(4, .int .i64 (zz : Int))]) (0) (pc 1 rfl pn) (pc 4 rfl pn) ⟨Nat.zero_le _, by simp⟩ ?_)))))))))
  rintro j hJ19
  obtain ⟨hk17, hi18⟩ : (j ≤ m.cons.length) ∧ ((m.cons.take j).all (fun c => validConS c m.doms.length) = true) := hJ19
  change KC _ _ (_) _ _ ([(4, .int .i64 (j : Int))] ++ _)
  refine kc_seq (kc_seq (kc_region (kl_mv rfl (kl_fd rfl (by assumption) (fun p20 a21 => ?_)))))
  refine kl_ld rfl (by assumption) (kl_len rfl (by assumption) (fun l22 => ?_))
  refine kl_lss rfl rfl ?_
  refine kl_nil (kq_code (kc_if rfl (fun c23 => ?_) (fun c23 => ?_)))
  ·skip
   refine kc_skipQ (kq_code (kc_seq (kc_block (kc_seq (kc_draw 10 [true, true, true, true, true, true, true, true, false, true] (by kernel_rfl) (by kernel_rfl) ?_)))))
   refine kl_fd rfl (by assumption) (fun p24 a25 => ?_)
   refine kl_ld rfl (by assumption) (kl_mv rfl (kl_inC rfl rfl (by assumption) (by omega) (fun p26 u28 u29 u30 h31 h32 h33 a27 => ?_)))
   refine kl_ldS rfl (by assumption) rfl ?_
   refine kl_fd rfl (by assumption) (fun p34 a35 => ?_)
   refine kl_ld rfl (by assumption) (kl_len rfl (by assumption) (fun l36 => ?_))
   refine kl_callP rfl rfl (svalidCon_ok (m.cons.getD j nilCon) (m.doms.length : Int) (by first | assumption | omega) (by assumption) (by assumption) (by assumption)) ?_
   refine kl_not rfl (kl_nil (kq_code (kc_cond rfl (fun c37 => ?_) (fun c37 => ?_))))
   ·skip
    have c37r := c37
    try simp only [smpC, decide_eq_true_eq, decide_eq_false_iff_not] at c37
    refine kc_seq (kc_region (kl_as rfl (kl_nil (kq_code (kc_ret (kq_retP rfl rfl (congrArg Value.bool ?_)))))))
    exact validModB_c (k := j) (by omega) (by assumption)
   ·skip
    have c37r := c37
    try simp only [smpC, decide_eq_true_eq, decide_eq_false_iff_not] at c37
    refine kc_skipQ (kq_code (kc_region (kl_mv rfl (kl_inc rfl rfl (by omega) ?_))))
    refine kl_as rfl (kl_nil (kq_round0 ((j + 1)) (by omega) (⟨by omega, all_take_step (d := nilCon) (by omega) hi18 (by assumption)⟩) (pc 4 rfl pn) (pc 1 rfl pn) (List.Sublist.refl _)))
  ·skip
   refine kc_exit (kq_code (kc_seq (kc_region (kl_fd rfl (by assumption) (fun p38 a39 => ?_)))))
   refine kl_ld rfl (by assumption) (kl_len rfl (by assumption) (fun l40 => ?_))
   refine kl_callP rfl rfl (inRange_ok (m.doms.length : Int) (1 : Int) (4 : Int)) ?_
   refine kl_mv rfl (kl_join 5 45 (.bool ((withinB (m.doms.length : Int) (1 : Int) (4 : Int)) && decide ((m.cons.length : Int) ≤ (6 : Int)))) (pc 40 rfl pn) (fun J45 => ?_) ?_)
   ·rcases Bool.eq_false_or_eq_true (withinB (m.doms.length : Int) (1 : Int) (4 : Int)) with g41 | g41
    ·skip
     have g41p := g41
     try simp only [Bool.not_eq_true', Bool.not_eq_false', decide_eq_true_eq, decide_eq_false_iff_not, Bool.and_eq_true, Bool.or_eq_false_iff, withinB_iff] at g41p
     refine kl_gT rfl rfl g41 (kl_fd rfl (by assumption) (fun p42 a43 => ?_))
     refine kl_gT rfl rfl g41 (kl_ld rfl (by assumption) (kl_gT rfl rfl g41 (kl_len rfl (by assumption) (fun l44 => ?_))))
     refine kl_gT rfl rfl g41 (kl_leq rfl rfl ?_)
     refine kl_andT rfl rfl g41 ?_
     exact J45 _ (pc 45 rfl (pc 40 rfl pn))
    ·skip
     refine kl_gF rfl rfl g41 (kl_gF rfl rfl g41 (kl_gF rfl rfl g41 (kl_gF rfl rfl g41 (kl_andF (decide ((m.cons.length : Int) ≤ (6 : Int))) rfl rfl g41 ?_))))
     exact J45 _ (pc 45 rfl (pc 40 rfl pn))
   refine kl_as rfl (kl_nil (kq_code (kc_ret (kq_retP rfl rfl (congrArg Value.bool ?_)))))
   rw [List.take_of_length_le (by omega)] at *; exact validModB_all (by assumption) (by assumption)
end Go.Proofs.YtojinjdobjodaaaGreat
