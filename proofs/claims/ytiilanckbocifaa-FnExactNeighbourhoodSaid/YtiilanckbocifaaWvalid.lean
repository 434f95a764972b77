/- Walks of functions of the program: each returns what the plain function gives. Conditions: those that each statement names. -/
import Derived.Test.YtiilanckbocifaaTys
namespace Go.Proofs.Ytiilanckbocifaa
open Go
set_option linter.unusedSimpArgs false
set_option linter.unusedVariables false
theorem within_ok (n : Int) (lo : Int) (hi : Int) : SpecP Try.prog 38 [.int .i64 n, .int .i64 lo, .int .i64 hi] [] (.bool (withinB n lo hi)) := by
 refine spec_of Try.func38 rfl rfl rfl (fun B => ?_)
 refine kc_seq (kc_region (kl_as rfl (kl_nil (kq_code (kc_seq (kc_region (kl_mv rfl (kl_mv rfl (kl_geq rfl rfl ?_)))))))))
 refine kl_mv rfl (kl_join 4 14 (.bool (decide (lo ≤ n) && decide (n ≤ hi))) (pc 6 rfl (pc 10 rfl pn)) (fun J2 => ?_) ?_)
 ·rcases Bool.eq_false_or_eq_true (decide (lo ≤ n)) with g1 | g1
  ·skip
   have g1p := of_decide_eq_true g1
   refine kl_gT rfl rfl g1 (kl_mv rfl (kl_gT rfl rfl g1 (kl_mv rfl (kl_gT rfl rfl g1 (kl_leq rfl rfl ?_)))))
   refine kl_andT rfl rfl g1 ?_
   exact J2 _ (pc 14 rfl (pc 6 rfl (pc 10 rfl pn)))
  ·skip
   refine kl_gF rfl rfl g1 (kl_gF rfl rfl g1 (kl_gF rfl rfl g1 (kl_andF (decide (n ≤ hi)) rfl rfl g1 ?_)))
   exact J2 _ (pc 14 rfl (pc 6 rfl (pc 10 rfl pn)))
 refine kl_as rfl (kl_nil (kq_code (kc_ret (kq_retP rfl rfl (congrArg Value.bool ?_)))))
 rfl
theorem indexInts_ok {Hxs : Hp} {vxs : Value} (xs : List Int) (x : Int) (hxs : Ints Hxs vxs xs) : SpecP Try.prog 30 [vxs, .int .i64 x] [Hxs] (.int .i64 (indexBy (fun y => decide (x = y)) xs)) := by
 refine spec_of Try.func30 rfl rfl rfl (fun B => ?_)
 refine kc_seq (kc_region (kl_as rfl (kl_nil (kq_code (kc_seq (kc_seq (kc_region (kl_mv rfl (kl_len rfl (by assumption) (fun l1 => ?_))))))))))
 refine kl_mv rfl (kl_nil (kq_code (kc_block (kc_loop0 (A := Nat) (fun zz => (zz ≤ xs.length) ∧ ((xs.take zz).any (fun y => decide (x = y)) = false)) (fun zz => xs.length - zz) (fun zz => [(8, .int .i64 (zz : Int))]) (0) (pc 0 rfl (pc 1 rfl (pc 7 rfl pn))) (pc 8 rfl pn) ⟨Nat.zero_le _, by simp⟩ ?_))))
 rintro k hJ4
 obtain ⟨hk2, hi3⟩ : (k ≤ xs.length) ∧ ((xs.take k).any (fun y => decide (x = y)) = false) := hJ4
 change KC _ _ (_) _ _ ([(8, .int .i64 (k : Int))] ++ _)
 refine kc_seq (kc_region (kl_lss rfl rfl ?_))
 refine kl_nil (kq_code (kc_seq (kc_if rfl (fun c5 => ?_) (fun c5 => ?_))))
 ·skip
  refine kc_skipQ (kq_code (kc_seq (kc_block (kc_seq (kc_region (kl_mv rfl (kl_as rfl (kl_nil (kq_code (kc_seq (kc_region (kl_mv rfl ?_))))))))))))
  refine kl_mv rfl (kl_mv rfl (kl_inI rfl rfl (by assumption) (by omega) (fun p6 a7 => ?_)))
  refine kl_ld rfl (by assumption) (kl_eql rfl rfl ?_)
  refine kl_nil (kq_code (kc_if rfl (fun c8 => ?_) (fun c8 => ?_)))
  ·skip
   refine kc_seq (kc_region (kl_mv rfl (kl_as rfl (kl_nil (kq_code (kc_ret (kq_retP rfl rfl (congrArg (Value.int .i64) ?_))))))))
   exact indexBy_hit (d := 0) (by omega) (by assumption) (by simpa using by assumption)
  ·skip
   refine kc_skipQ (kq_code (kc_region (kl_inc rfl rfl (by omega) ?_)))
   refine kl_mv rfl (kl_nil (kq_round0 ((k + 1)) (by omega) (⟨by omega, any_take_step (d := 0) (by omega) hi3 (by simpa using by assumption)⟩) (pc 8 rfl pn) (pc 0 rfl (pc 1 rfl (pc 7 rfl pn))) (List.Sublist.refl _)))
 ·skip
  refine kc_exit (kq_code (kc_seq (kc_region (kl_as rfl (kl_nil (kq_code (kc_ret (kq_retP rfl rfl (congrArg (Value.int .i64) ?_)))))))))
  exact indexBy_none (by omega) (by assumption)
theorem containsInts_ok {Hxs : Hp} {vxs : Value} (xs : List Int) (x : Int) (hxs : Ints Hxs vxs xs) : SpecP Try.prog 28 [vxs, .int .i64 x] [Hxs] (.bool (xs.contains x)) := by
 refine spec_of Try.func28 rfl rfl rfl (fun B => ?_)
 refine kc_seq (kc_region (kl_as rfl (kl_nil (kq_code (kc_seq (kc_region (kl_mv rfl (kl_mv rfl (kl_callP rfl rfl (indexInts_ok xs x (by assumption)) ?_)))))))))
 refine kl_geq rfl rfl ?_
 refine kl_as rfl (kl_nil (kq_code (kc_ret (kq_retP rfl rfl (congrArg Value.bool ?_)))))
 rw [indexBy_any]; rw [List.contains_eq_any_beq]; rfl
theorem distinct_ok {Hxs : Hp} {vxs : Value} (xs : List Int) (hxs : Ints Hxs vxs xs) : SpecP Try.prog 96 [vxs] [Hxs] (.bool (distinctB xs)) := by
 refine spec_of Try.func96 rfl rfl rfl (fun B => ?_)
 refine kc_seq (kc_region (kl_as rfl (kl_nil (kq_code (kc_seq (kc_seq (kc_region (kl_mv rfl (kl_len rfl (by assumption) (fun l1 => ?_))))))))))
 refine kl_mv rfl (kl_nil (kq_code (kc_block (kc_loop0 (A := Nat) (fun zz => (zz ≤ xs.length) ∧ ((xs.take zz).Nodup)) (fun zz => xs.length - zz) (fun zz => [(7, .int .i64 (zz : Int))]) (0) (pc 0 rfl (pc 5 rfl (pc 6 rfl pn))) (pc 7 rfl pn) ⟨Nat.zero_le _, by simp⟩ ?_))))
 rintro k hJ4
 obtain ⟨hk2, hi3⟩ : (k ≤ xs.length) ∧ ((xs.take k).Nodup) := hJ4
 change KC _ _ (_) _ _ ([(7, .int .i64 (k : Int))] ++ _)
 refine kc_seq (kc_region (kl_lss rfl rfl ?_))
 refine kl_nil (kq_code (kc_seq (kc_if rfl (fun c5 => ?_) (fun c5 => ?_))))
 ·skip
  refine kc_skipQ (kq_code (kc_seq (kc_block (kc_seq (kc_region (kl_mv rfl (kl_inI rfl rfl (by assumption) (by omega) (fun p6 a7 => ?_))))))))
  refine kl_ld rfl (by assumption) (kl_as rfl (kl_as rfl (kl_nil (kq_code (kc_seq (kc_region (kl_mv rfl (kl_mv rfl (kl_slTake rfl rfl (by assumption) (by omega) (fun u8 h9 => ?_))))))))))
  refine kl_mv rfl (kl_callP rfl rfl (containsInts_ok (xs.take k) (xs.getD k 0) (by assumption)) ?_)
  refine kl_nil (kq_code (kc_cond rfl (fun c10 => ?_) (fun c10 => ?_)))
  ·skip
   have c10r := c10
   try simp only [smpC, decide_eq_true_eq, decide_eq_false_iff_not] at c10
   refine kc_seq (kc_region (kl_as rfl (kl_nil (kq_code (kc_ret (kq_retP rfl rfl (congrArg Value.bool ?_)))))))
   simp only [distinctB]; exact (decide_eq_false (nodup_not (k := k) (by omega) (by simp at *; assumption))).symm
  ·skip
   have c10r := c10
   try simp only [smpC, decide_eq_true_eq, decide_eq_false_iff_not] at c10
   refine kc_skipQ (kq_code (kc_region (kl_inc rfl rfl (by omega) ?_)))
   refine kl_mv rfl (kl_nil (kq_round0 ((k + 1)) (by omega) (⟨by omega, (nodup_take_succ (by omega)).2 ⟨hi3, by simp at *; assumption⟩⟩) (pc 7 rfl pn) (pc 0 rfl (pc 5 rfl (pc 6 rfl pn))) (List.Sublist.refl _)))
 ·skip
  refine kc_exit (kq_code (kc_seq (kc_region (kl_as rfl (kl_nil (kq_code (kc_ret (kq_retP rfl rfl (congrArg Value.bool ?_)))))))))
  simp only [distinctB]; rw [List.take_of_length_le (by omega)] at hi3; exact (decide_eq_true hi3).symm
theorem ixf_int_ok {Hxs : Hp} {vxs : Value} {gp : Nat} {capsp : Array Value} {imp : List Hp} [FnC Try.prog gp] (xs : List Int) (p : Int → Bool) (hxs : Ints Hxs vxs xs) (hp : ∀ n : Int, n ∈ xs → SpecP Try.prog gp (.int .i64 n :: capsp.toList) imp (.bool (p n))) : SpecP Try.prog 58 [vxs, .func (.func gp) #[] capsp] (Hxs :: imp) (.int .i64 (indexBy p xs)) := by
 refine spec_of Try.func58 rfl rfl rfl (fun B => ?_)
 refine kc_seq (kc_region (kl_as rfl (kl_nil (kq_code (kc_seq (kc_seq (kc_region (kl_mv rfl (kl_len rfl (by assumption) (fun l1 => ?_))))))))))
 refine kl_mv rfl (kl_nil (kq_code (kc_block (kc_loop0 (A := Nat) (fun zz => (zz ≤ xs.length) ∧ ((xs.take zz).any p = false)) (fun zz => xs.length - zz) (fun zz => [(8, .int .i64 (zz : Int))]) (0) (pc 0 rfl (pc 1 rfl (pc 7 rfl pn))) (pc 8 rfl pn) ⟨Nat.zero_le _, by simp⟩ ?_))))
 rintro k hJ4
 obtain ⟨hk2, hi3⟩ : (k ≤ xs.length) ∧ ((xs.take k).any p = false) := hJ4
 change KC _ _ (_) _ _ ([(8, .int .i64 (k : Int))] ++ _)
 refine kc_seq (kc_region (kl_lss rfl rfl ?_))
 refine kl_nil (kq_code (kc_seq (kc_if rfl (fun c5 => ?_) (fun c5 => ?_))))
 ·skip
  refine kc_skipQ (kq_code (kc_seq (kc_block (kc_seq (kc_region (kl_mv rfl (kl_as rfl (kl_nil (kq_code (kc_seq (kc_region (kl_mv rfl ?_))))))))))))
  refine kl_mv rfl (kl_mv rfl (kl_inI rfl rfl (by assumption) (by omega) (fun p6 a7 => ?_)))
  refine kl_ld rfl (by assumption) (kl_callP rfl rfl (hp (xs.getD k 0) (getD_mem (by omega))) ?_)
  refine kl_nil (kq_code (kc_cond rfl (fun c8 => ?_) (fun c8 => ?_)))
  ·skip
   have c8r := c8
   try simp only [smpC, decide_eq_true_eq, decide_eq_false_iff_not] at c8
   refine kc_seq (kc_region (kl_mv rfl (kl_as rfl (kl_nil (kq_code (kc_ret (kq_retP rfl rfl (congrArg (Value.int .i64) ?_))))))))
   exact indexBy_hit (d := 0) (by omega) (by assumption) (by assumption)
  ·skip
   have c8r := c8
   try simp only [smpC, decide_eq_true_eq, decide_eq_false_iff_not] at c8
   refine kc_skipQ (kq_code (kc_region (kl_inc rfl rfl (by omega) ?_)))
   refine kl_mv rfl (kl_nil (kq_round0 ((k + 1)) (by omega) (⟨by omega, any_take_step (d := 0) (by omega) hi3 (by assumption)⟩) (pc 8 rfl pn) (pc 0 rfl (pc 1 rfl (pc 7 rfl pn))) (List.Sublist.refl _)))
 ·skip
  refine kc_exit (kq_code (kc_seq (kc_region (kl_as rfl (kl_nil (kq_code (kc_ret (kq_retP rfl rfl (congrArg (Value.int .i64) ?_)))))))))
  exact indexBy_none (by omega) (by assumption)
theorem cf_int_ok {Hxs : Hp} {vxs : Value} {gp : Nat} {capsp : Array Value} {imp : List Hp} [FnC Try.prog gp] (xs : List Int) (p : Int → Bool) (hxs : Ints Hxs vxs xs) (hp : ∀ n : Int, n ∈ xs → SpecP Try.prog gp (.int .i64 n :: capsp.toList) imp (.bool (p n))) : SpecP Try.prog 26 [vxs, .func (.func gp) #[] capsp] (Hxs :: imp) (.bool (xs.any p)) := by
 refine spec_of Try.func26 rfl rfl rfl (fun B => ?_)
 refine kc_seq (kc_region (kl_as rfl (kl_nil (kq_code (kc_seq (kc_region (kl_mv rfl (kl_mv rfl (kl_callP rfl rfl (ixf_int_ok xs p (by assumption) hp) ?_)))))))))
 refine kl_geq rfl rfl ?_
 refine kl_as rfl (kl_nil (kq_code (kc_ret (kq_retP rfl rfl (congrArg Value.bool ?_)))))
 exact indexBy_any p xs
theorem allIn1_ok {Hlo : Hp} {ptrlo : Value} {Hhi : Hp} {ptrhi : Value} (n : Int) (lo : Int) (hi : Int) (alo : At Hlo ptrlo [.int .i64 lo]) (ahi : At Hhi ptrhi [.int .i64 hi]) : SpecP Try.prog 103 [.int .i64 n, ptrlo, ptrhi] [Hlo, Hhi] (.bool (!withinB n lo hi)) := by
 refine spec_of Try.func103 rfl rfl rfl (fun B => ?_)
 refine kc_seq (kc_region (kl_as rfl (kl_nil (kq_code (kc_seq (kc_region (kl_mv rfl (kl_ld rfl (by assumption) (kl_ld rfl (by assumption) (kl_callP rfl rfl (within_ok n lo hi) ?_))))))))))
 refine kl_not rfl (kl_as rfl (kl_nil (kq_code (kc_ret (kq_retP rfl rfl (congrArg Value.bool ?_))))))
 rfl
theorem allIn_ok {Hxs : Hp} {vxs : Value} (xs : List Int) (lo : Int) (hi : Int) (hxs : Ints Hxs vxs xs) : SpecP Try.prog 73 [vxs, .int .i64 lo, .int .i64 hi] [Hxs] (.bool (allInB xs lo hi)) := by
 refine spec_of Try.func73 rfl rfl rfl (fun B => ?_)
 refine kc_seq (kc_region (kl_box rfl rfl (fun p1 H2 f3 a4 => ?_)))
 refine kl_box rfl rfl (fun p5 H6 f7 a8 => ?_)
 refine kl_as rfl (kl_nil (kq_code (kc_seq (kc_region (kl_mv rfl (kl_mkf rfl ?_))))))
 refine kl_callP rfl rfl (cf_int_ok xs (fun x8 => !withinB x8 lo hi) (by assumption) (fun x8 _ => allIn1_ok x8 lo hi (by assumption) (by assumption))) ?_
 refine kl_not rfl (kl_as rfl (kl_nil (kq_code (kc_ret (kq_retP rfl rfl (congrArg Value.bool ?_))))))
 simp [allInB, List.all_eq_not_any_not]
theorem domainsOk_ok {Hds : Hp} {vds : Value} (ds : List Int) (hds : Ints Hds vds ds) : SpecP Try.prog 67 [vds] [Hds] (.bool (domainsOkB ds)) := by
 refine spec_of Try.func67 rfl rfl rfl (fun B => ?_)
 refine kc_seq (kc_region (kl_as rfl (kl_nil (kq_code (kc_seq (kc_region (kl_mv rfl (kl_len rfl (by assumption) (fun l1 => ?_)))))))))
 refine kl_callP rfl rfl (within_ok (ds.length : Int) (1 : Int) (4 : Int)) ?_
 refine kl_mv rfl (kl_join 3 9 (.bool ((withinB (ds.length : Int) (1 : Int) (4 : Int)) && (allInB ds (0 : Int) (63 : Int)))) (pc 2 rfl (pc 6 rfl pn)) (fun J3 => ?_) ?_)
 ·rcases Bool.eq_false_or_eq_true (withinB (ds.length : Int) (1 : Int) (4 : Int)) with g2 | g2
  ·skip
   have g2p := g2
   try simp only [Bool.not_eq_true', Bool.not_eq_false', decide_eq_true_eq, decide_eq_false_iff_not, Bool.and_eq_true, Bool.or_eq_false_iff, withinB_iff] at g2p
   refine kl_gT rfl rfl g2 (kl_mv rfl (kl_gT rfl rfl g2 (kl_callP rfl rfl (allIn_ok ds (0 : Int) (63 : Int) (by assumption)) ?_)))
   refine kl_andT rfl rfl g2 ?_
   exact J3 _ (pc 9 rfl (pc 2 rfl (pc 6 rfl pn)))
  ·skip
   refine kl_gF rfl rfl g2 (kl_gF rfl rfl g2 (kl_andF (allInB ds (0 : Int) (63 : Int)) rfl rfl g2 ?_))
   exact J3 _ (pc 9 rfl (pc 2 rfl (pc 6 rfl pn)))
 refine kl_as rfl (kl_nil (kq_code (kc_ret (kq_retP rfl rfl (congrArg Value.bool ?_)))))
 rfl
theorem ixf_row_ok {Hxs : Hp} {vxs : Value} {gp : Nat} {capsp : Array Value} {imp : List Hp} [FnC Try.prog gp] (xs : List (List Int)) (p : List Int → Bool) (hxs : Rows Hxs vxs xs) (hp : ∀ (H : Hp) (u : Value) (r : List Int), r ∈ xs → Ints H u r → SpecP Try.prog gp (u :: capsp.toList) (H :: imp) (.bool (p r))) : SpecP Try.prog 123 [vxs, .func (.func gp) #[] capsp] (Hxs :: imp) (.int .i64 (indexBy p xs)) := by
 refine spec_of Try.func123 rfl rfl rfl (fun B => ?_)
 refine kc_seq (kc_region (kl_as rfl (kl_nil (kq_code (kc_seq (kc_seq (kc_region (kl_mv rfl (kl_len rfl (by assumption) (fun l1 => ?_))))))))))
 refine kl_mv rfl (kl_nil (kq_code (kc_block (kc_loop0 (A := Nat) (fun zz => (zz ≤ xs.length) ∧ ((xs.take zz).any p = false)) (fun zz => xs.length - zz) (fun zz => [(8, .int .i64 (zz : Int))]) (0) (pc 0 rfl (pc 1 rfl (pc 7 rfl pn))) (pc 8 rfl pn) ⟨Nat.zero_le _, by simp⟩ ?_))))
 rintro k hJ4
 obtain ⟨hk2, hi3⟩ : (k ≤ xs.length) ∧ ((xs.take k).any p = false) := hJ4
 change KC _ _ (_) _ _ ([(8, .int .i64 (k : Int))] ++ _)
 refine kc_seq (kc_region (kl_lss rfl rfl ?_))
 refine kl_nil (kq_code (kc_seq (kc_if rfl (fun c5 => ?_) (fun c5 => ?_))))
 ·skip
  refine kc_skipQ (kq_code (kc_seq (kc_block (kc_seq (kc_region (kl_mv rfl (kl_as rfl (kl_nil (kq_code (kc_seq (kc_region (kl_mv rfl ?_))))))))))))
  refine kl_mv rfl (kl_mv rfl (kl_inS rfl rfl (by assumption) (by omega) (fun p6 u8 h9 a7 => ?_)))
  refine kl_ld rfl (by assumption) (kl_callP rfl rfl (hp _ _ (xs.getD k []) (getD_mem (by omega)) (by assumption)) ?_)
  refine kl_nil (kq_code (kc_cond rfl (fun c10 => ?_) (fun c10 => ?_)))
  ·skip
   have c10r := c10
   try simp only [smpC, decide_eq_true_eq, decide_eq_false_iff_not] at c10
   refine kc_seq (kc_region (kl_mv rfl (kl_as rfl (kl_nil (kq_code (kc_ret (kq_retP rfl rfl (congrArg (Value.int .i64) ?_))))))))
   exact indexBy_hit (d := []) (by omega) (by assumption) (by assumption)
  ·skip
   have c10r := c10
   try simp only [smpC, decide_eq_true_eq, decide_eq_false_iff_not] at c10
   refine kc_skipQ (kq_code (kc_region (kl_inc rfl rfl (by omega) ?_)))
   refine kl_mv rfl (kl_nil (kq_round0 ((k + 1)) (by omega) (⟨by omega, any_take_step (d := []) (by omega) hi3 (by assumption)⟩) (pc 8 rfl pn) (pc 0 rfl (pc 1 rfl (pc 7 rfl pn))) (List.Sublist.refl _)))
 ·skip
  refine kc_exit (kq_code (kc_seq (kc_region (kl_as rfl (kl_nil (kq_code (kc_ret (kq_retP rfl rfl (congrArg (Value.int .i64) ?_)))))))))
  exact indexBy_none (by omega) (by assumption)
theorem cf_row_ok {Hxs : Hp} {vxs : Value} {gp : Nat} {capsp : Array Value} {imp : List Hp} [FnC Try.prog gp] (xs : List (List Int)) (p : List Int → Bool) (hxs : Rows Hxs vxs xs) (hp : ∀ (H : Hp) (u : Value) (r : List Int), r ∈ xs → Ints H u r → SpecP Try.prog gp (u :: capsp.toList) (H :: imp) (.bool (p r))) : SpecP Try.prog 115 [vxs, .func (.func gp) #[] capsp] (Hxs :: imp) (.bool (xs.any p)) := by
 refine spec_of Try.func115 rfl rfl rfl (fun B => ?_)
 refine kc_seq (kc_region (kl_as rfl (kl_nil (kq_code (kc_seq (kc_region (kl_mv rfl (kl_mv rfl (kl_callP rfl rfl (ixf_row_ok xs p (by assumption) hp) ?_)))))))))
 refine kl_geq rfl rfl ?_
 refine kl_as rfl (kl_nil (kq_code (kc_ret (kq_retP rfl rfl (congrArg Value.bool ?_)))))
 exact indexBy_any p xs
theorem rowsIn1_ok {Hrow : Hp} {vrow : Value} {Hmany : Hp} {ptrmany : Value} {Hlo : Hp} {ptrlo : Value} {Hhi : Hp} {ptrhi : Value} (row : List Int) (many : Int) (lo : Int) (hi : Int) (hrow : Ints Hrow vrow row) (amany : At Hmany ptrmany [.int .i64 many]) (alo : At Hlo ptrlo [.int .i64 lo]) (ahi : At Hhi ptrhi [.int .i64 hi]) : SpecP Try.prog 120 [vrow, ptrmany, ptrlo, ptrhi] [Hrow, Hmany, Hlo, Hhi] (.bool (!(decide ((row.length : Int) = many) && allInB row lo hi))) := by
 refine spec_of Try.func120 rfl rfl rfl (fun B => ?_)
 refine kc_seq (kc_region (kl_as rfl (kl_nil (kq_code (kc_seq (kc_region (kl_mv rfl (kl_len rfl (by assumption) (fun l1 => ?_)))))))))
 refine kl_ld rfl (by assumption) (kl_neq rfl rfl ?_)
 refine kl_mv rfl (kl_join 6 16 (.bool (decide ((row.length : Int) ≠ many) || !(allInB row lo hi))) (pc 5 rfl (pc 10 rfl pn)) (fun J3 => ?_) ?_)
 ·rcases Bool.eq_false_or_eq_true (decide ((row.length : Int) ≠ many)) with g2 | g2
  ·skip
   refine kl_gF rfl rfl g2 (kl_gF rfl rfl g2 (kl_gF rfl rfl g2 (kl_gF rfl rfl g2 (kl_gF rfl rfl g2 (kl_orT (!(allInB row lo hi)) rfl rfl g2 ?_)))))
   exact J3 _ (pc 16 rfl (pc 5 rfl (pc 10 rfl pn)))
  ·skip
   have g2p := of_decide_eq_false g2
   refine kl_gT rfl rfl g2 (kl_mv rfl (kl_gT rfl rfl g2 (kl_ld rfl (by assumption) (kl_gT rfl rfl g2 (kl_ld rfl (by assumption) (kl_gT rfl rfl g2 (kl_callP rfl rfl (allIn_ok row lo hi (by assumption)) ?_)))))))
   refine kl_gT rfl rfl g2 (kl_not rfl (kl_orF rfl rfl g2 ?_))
   exact J3 _ (pc 16 rfl (pc 5 rfl (pc 10 rfl pn)))
 refine kl_as rfl (kl_nil (kq_code (kc_ret (kq_retP rfl rfl (congrArg Value.bool ?_)))))
 simp only [Bool.not_and, decide_not]
theorem rowsIn_ok {Hrows : Hp} {vrows : Value} (rows : List (List Int)) (many : Int) (lo : Int) (hi : Int) (hrows : Rows Hrows vrows rows) : SpecP Try.prog 110 [vrows, .int .i64 many, .int .i64 lo, .int .i64 hi] [Hrows] (.bool (withinB rows.length 1 8 && rows.all fun r => decide ((r.length : Int) = many) && allInB r lo hi)) := by
 refine spec_of Try.func110 rfl rfl rfl (fun B => ?_)
 refine kc_seq (kc_region (kl_box rfl rfl (fun p1 H2 f3 a4 => ?_)))
 refine kl_box rfl rfl (fun p5 H6 f7 a8 => ?_)
 refine kl_box rfl rfl (fun p9 H10 f11 a12 => ?_)
 refine kl_as rfl (kl_nil (kq_code (kc_seq (kc_region (kl_mv rfl (kl_len rfl (by assumption) (fun l13 => ?_)))))))
 refine kl_callP rfl rfl (within_ok (rows.length : Int) (1 : Int) (8 : Int)) ?_
 refine kl_mv rfl (kl_join 5 17 (.bool ((withinB (rows.length : Int) (1 : Int) (8 : Int)) && !(rows.any (fun x14 => !(decide ((x14.length : Int) = many) && allInB x14 lo hi))))) (pc 8 rfl (pc 12 rfl pn)) (fun J16 => ?_) ?_)
 ·rcases Bool.eq_false_or_eq_true (withinB (rows.length : Int) (1 : Int) (8 : Int)) with g14 | g14
  ·skip
   have g14p := g14
   try simp only [Bool.not_eq_true', Bool.not_eq_false', decide_eq_true_eq, decide_eq_false_iff_not, Bool.and_eq_true, Bool.or_eq_false_iff, withinB_iff] at g14p
   refine kl_gT rfl rfl g14 (kl_mv rfl (kl_gT rfl rfl g14 (kl_mkf rfl ?_)))
   refine kl_gT rfl rfl g14 (kl_callP rfl rfl (cf_row_ok rows (fun x14 => !(decide ((x14.length : Int) = many) && allInB x14 lo hi)) (by assumption) (fun _ ux14 x14 _ hux14 => rowsIn1_ok x14 many lo hi hux14 (by assumption) (by assumption) (by assumption))) ?_)
   refine kl_gT rfl rfl g14 (kl_not rfl (kl_andT rfl rfl g14 ?_))
   exact J16 _ (pc 17 rfl (pc 8 rfl (pc 12 rfl pn)))
  ·skip
   refine kl_gF rfl rfl g14 (kl_gF rfl rfl g14 (kl_gF rfl rfl g14 (kl_gF rfl rfl g14 (kl_andF (!(rows.any (fun x14 => !(decide ((x14.length : Int) = many) && allInB x14 lo hi)))) rfl rfl g14 ?_))))
   exact J16 _ (pc 17 rfl (pc 8 rfl (pc 12 rfl pn)))
 refine kl_as rfl (kl_nil (kq_code (kc_ret (kq_retP rfl rfl (congrArg Value.bool ?_)))))
 simp only [List.all_eq_not_any_not]
theorem fits1_ok {Hcv : Hp} {vcv : Value} {Hca : Hp} {vca : Value} {Hcr : Hp} {vcr : Value} {Hc : Hp} {ptrc : Value} (many : Int) (lo : Int) (hi : Int) (c : Con) (hcv : Ints Hcv vcv c.vars) (hca : Ints Hca vca c.args) (hcr : Rows Hcr vcr c.rows) (ac : At Hc ptrc [.int .i64 c.kind, vcv, vca, .int .i64 c.bound, vcr]) : SpecP Try.prog 109 [.int .i64 many, .int .i64 lo, .int .i64 hi, ptrc] [Hcv, Hca, Hcr, Hc] (.bool (decide ((c.args.length : Int) = many) && allInB c.args lo hi)) := by
 refine spec_of Try.func109 rfl rfl rfl (fun B => ?_)
 refine kc_seq (kc_region (kl_as rfl (kl_nil (kq_code (kc_seq (kc_region (kl_fd rfl (by assumption) (fun p1 a2 => ?_))))))))
 refine kl_ld rfl (by assumption) (kl_len rfl (by assumption) (fun l3 => ?_))
 refine kl_mv rfl (kl_eql rfl rfl ?_)
 refine kl_mv rfl (kl_join 6 19 (.bool (decide ((c.args.length : Int) = many) && (allInB c.args lo hi))) (pc 7 rfl (pc 13 rfl pn)) (fun J7 => ?_) ?_)
 ·rcases Bool.eq_false_or_eq_true (decide ((c.args.length : Int) = many)) with g4 | g4
  ·skip
   have g4p := of_decide_eq_true g4
   refine kl_gT rfl rfl g4 (kl_fd rfl (by assumption) (fun p5 a6 => ?_))
   refine kl_gT rfl rfl g4 (kl_ld rfl (by assumption) (kl_gT rfl rfl g4 (kl_mv rfl (kl_gT rfl rfl g4 (kl_mv rfl (kl_gT rfl rfl g4 (kl_callP rfl rfl (allIn_ok c.args lo hi (by assumption)) ?_)))))))
   refine kl_andT rfl rfl g4 ?_
   exact J7 _ (pc 19 rfl (pc 7 rfl (pc 13 rfl pn)))
  ·skip
   refine kl_gF rfl rfl g4 (kl_gF rfl rfl g4 (kl_gF rfl rfl g4 (kl_gF rfl rfl g4 (kl_gF rfl rfl g4 (kl_andF (allInB c.args lo hi) rfl rfl g4 ?_)))))
   exact J7 _ (pc 19 rfl (pc 7 rfl (pc 13 rfl pn)))
 refine kl_as rfl (kl_nil (kq_code (kc_ret (kq_retP rfl rfl (congrArg Value.bool ?_)))))
 rfl
theorem fits_ok {Hcv : Hp} {vcv : Value} {Hca : Hp} {vca : Value} {Hcr : Hp} {vcr : Value} (c : Con) (hcv : Ints Hcv vcv c.vars) (hca : Ints Hca vca c.args) (hcr : Rows Hcr vcr c.rows) : SpecP Try.prog 97 [.agg #[.int .i64 c.kind, vcv, vca, .int .i64 c.bound, vcr]] [Hcv, Hca, Hcr] (.bool (fitsB c)) := by
 refine spec_of Try.func97 rfl rfl rfl (fun B => ?_)
 refine kc_seq (kc_region (kl_box rfl rfl (fun p1 H2 f3 a4 => ?_)))
 refine kl_as rfl (kl_nil (kq_code (kc_seq (kc_region (kl_fd rfl (by assumption) (fun p5 a6 => ?_))))))
 refine kl_ld rfl (by assumption) (kl_len rfl (by assumption) (fun l7 => ?_))
 refine kl_as rfl (kl_nil (kq_code (kc_seq (kc_region (kl_mkf rfl ?_)))))
 refine kl_as rfl (kl_nil (kq_code (kc_seq (kc_draw 9 [true, true, true, true, true, true, true, true, true] (by kernel_rfl) (by kernel_rfl) ?_))))
 refine kl_fd rfl (by assumption) (fun p8 a9 => ?_)
 refine kl_ld rfl (by assumption) (kl_len rfl (by assumption) (fun l10 => ?_))
 refine kl_eql rfl rfl ?_
 refine kl_fd rfl (by assumption) (fun p11 a12 => ?_)
 refine kl_ld rfl (by assumption) (kl_eql rfl rfl ?_)
 refine kl_as rfl (kl_as rfl (kl_nil (kq_code (kc_seq (kc_seq (kc_region (kl_fd rfl (by assumption) (fun p13 a14 => ?_))))))))
 refine kl_ld rfl (by assumption) (kl_nil (kq_code (kc_block (kc_seq (kc_region (kl_eql rfl rfl ?_))))))
 refine kl_as rfl (kl_nil (kq_code (kc_if rfl (fun c15 => ?_) (fun c15 => ?_))))
 ·skip
  refine kc_seq (kc_region (kl_mv rfl (kl_mv rfl (kl_callP rfl rfl (fits1_ok (c.vars.length : Int) (-9 : Int) (9 : Int) c (by assumption) (by assumption) (by assumption) (by assumption)) ?_))))
  refine kl_mv rfl (kl_join 4 30 (.bool ((decide ((c.args.length : Int) = (c.vars.length : Int)) && allInB c.args (-9 : Int) (9 : Int)) && (withinB c.bound (-999 : Int) (999 : Int)))) (pc 2 rfl (pc 5 rfl (pc 26 rfl pn))) (fun J19 => ?_) ?_)
  ·rcases Bool.eq_false_or_eq_true (decide ((c.args.length : Int) = (c.vars.length : Int)) && allInB c.args (-9 : Int) (9 : Int)) with g16 | g16
   ·skip
    have g16p := g16
    try simp only [Bool.not_eq_true', Bool.not_eq_false', decide_eq_true_eq, decide_eq_false_iff_not, Bool.and_eq_true, Bool.or_eq_false_iff, withinB_iff] at g16p
    refine kl_gT rfl rfl g16 (kl_fd rfl (by assumption) (fun p17 a18 => ?_))
    refine kl_gT rfl rfl g16 (kl_ld rfl (by assumption) (kl_gT rfl rfl g16 (kl_callP rfl rfl (within_ok c.bound (-999 : Int) (999 : Int)) ?_)))
    refine kl_andT rfl rfl g16 ?_
    exact J19 _ (pc 30 rfl (pc 2 rfl (pc 5 rfl (pc 26 rfl pn))))
   ·skip
    refine kl_gF rfl rfl g16 (kl_gF rfl rfl g16 (kl_gF rfl rfl g16 (kl_andF (withinB c.bound (-999 : Int) (999 : Int)) rfl rfl g16 ?_)))
    exact J19 _ (pc 30 rfl (pc 2 rfl (pc 5 rfl (pc 26 rfl pn))))
  refine kl_mv rfl (kl_join 2 33 (.bool (((decide ((c.args.length : Int) = (c.vars.length : Int)) && allInB c.args (-9 : Int) (9 : Int)) && (withinB c.bound (-999 : Int) (999 : Int))) && decide ((c.rows.length : Int) = (0 : Int)))) (pc 2 rfl (pc 31 rfl pn)) (fun J21 => ?_) ?_)
  ·rcases Bool.eq_false_or_eq_true ((decide ((c.args.length : Int) = (c.vars.length : Int)) && allInB c.args (-9 : Int) (9 : Int)) && (withinB c.bound (-999 : Int) (999 : Int))) with g20 | g20
   ·skip
    have g20p := g20
    try simp only [Bool.not_eq_true', Bool.not_eq_false', decide_eq_true_eq, decide_eq_false_iff_not, Bool.and_eq_true, Bool.or_eq_false_iff, withinB_iff] at g20p
    refine kl_gT rfl rfl g20 (kl_mv rfl (kl_andT rfl rfl g20 ?_))
    exact J21 _ (pc 33 rfl (pc 2 rfl (pc 31 rfl pn)))
   ·skip
    refine kl_gF rfl rfl g20 (kl_andF (decide ((c.rows.length : Int) = (0 : Int))) rfl rfl g20 ?_)
    exact J21 _ (pc 33 rfl (pc 2 rfl (pc 31 rfl pn)))
  refine kl_as rfl (kl_nil (kq_code (kc_ret (kq_retP rfl rfl (congrArg Value.bool ?_)))))
  first | (exfalso; omega) | (simp [fitsB, rowsInB, *])
 ·skip
  refine kc_seq (kc_region (kl_eql rfl rfl ?_))
  refine kl_as rfl (kl_nil (kq_code (kc_if rfl (fun c22 => ?_) (fun c22 => ?_))))
  ·skip
   refine kc_seq (kc_region (kl_mv rfl (kl_eql rfl rfl ?_)))
   refine kl_mv rfl (kl_join 3 41 (.bool (decide ((c.vars.length : Int) = (2 : Int)) && (decide ((c.args.length : Int) = (1 : Int)) && allInB c.args (-9 : Int) (9 : Int)))) (pc 2 rfl (pc 5 rfl (pc 6 rfl (pc 38 rfl pn)))) (fun J24 => ?_) ?_)
   ·rcases Bool.eq_false_or_eq_true (decide ((c.vars.length : Int) = (2 : Int))) with g23 | g23
    ·skip
     have g23p := of_decide_eq_true g23
     refine kl_gT rfl rfl g23 (kl_mv rfl (kl_gT rfl rfl g23 (kl_callP rfl rfl (fits1_ok (1 : Int) (-9 : Int) (9 : Int) c (by assumption) (by assumption) (by assumption) (by assumption)) ?_)))
     refine kl_andT rfl rfl g23 ?_
     exact J24 _ (pc 41 rfl (pc 2 rfl (pc 5 rfl (pc 6 rfl (pc 38 rfl pn)))))
    ·skip
     refine kl_gF rfl rfl g23 (kl_gF rfl rfl g23 (kl_andF (decide ((c.args.length : Int) = (1 : Int)) && allInB c.args (-9 : Int) (9 : Int)) rfl rfl g23 ?_))
     exact J24 _ (pc 41 rfl (pc 2 rfl (pc 5 rfl (pc 6 rfl (pc 38 rfl pn)))))
   refine kl_mv rfl (kl_join 2 44 (.bool ((decide ((c.vars.length : Int) = (2 : Int)) && (decide ((c.args.length : Int) = (1 : Int)) && allInB c.args (-9 : Int) (9 : Int))) && decide (c.bound = (0 : Int)))) (pc 2 rfl (pc 5 rfl (pc 42 rfl pn))) (fun J26 => ?_) ?_)
   ·rcases Bool.eq_false_or_eq_true (decide ((c.vars.length : Int) = (2 : Int)) && (decide ((c.args.length : Int) = (1 : Int)) && allInB c.args (-9 : Int) (9 : Int))) with g25 | g25
    ·skip
     have g25p := g25
     try simp only [Bool.not_eq_true', Bool.not_eq_false', decide_eq_true_eq, decide_eq_false_iff_not, Bool.and_eq_true, Bool.or_eq_false_iff, withinB_iff] at g25p
     refine kl_gT rfl rfl g25 (kl_mv rfl (kl_andT rfl rfl g25 ?_))
     exact J26 _ (pc 44 rfl (pc 2 rfl (pc 5 rfl (pc 42 rfl pn))))
    ·skip
     refine kl_gF rfl rfl g25 (kl_andF (decide (c.bound = (0 : Int))) rfl rfl g25 ?_)
     exact J26 _ (pc 44 rfl (pc 2 rfl (pc 5 rfl (pc 42 rfl pn))))
   refine kl_mv rfl (kl_join 2 47 (.bool (((decide ((c.vars.length : Int) = (2 : Int)) && (decide ((c.args.length : Int) = (1 : Int)) && allInB c.args (-9 : Int) (9 : Int))) && decide (c.bound = (0 : Int))) && decide ((c.rows.length : Int) = (0 : Int)))) (pc 2 rfl (pc 45 rfl pn)) (fun J28 => ?_) ?_)
   ·rcases Bool.eq_false_or_eq_true ((decide ((c.vars.length : Int) = (2 : Int)) && (decide ((c.args.length : Int) = (1 : Int)) && allInB c.args (-9 : Int) (9 : Int))) && decide (c.bound = (0 : Int))) with g27 | g27
    ·skip
     have g27p := g27
     try simp only [Bool.not_eq_true', Bool.not_eq_false', decide_eq_true_eq, decide_eq_false_iff_not, Bool.and_eq_true, Bool.or_eq_false_iff, withinB_iff] at g27p
     refine kl_gT rfl rfl g27 (kl_mv rfl (kl_andT rfl rfl g27 ?_))
     exact J28 _ (pc 47 rfl (pc 2 rfl (pc 45 rfl pn)))
    ·skip
     refine kl_gF rfl rfl g27 (kl_andF (decide ((c.rows.length : Int) = (0 : Int))) rfl rfl g27 ?_)
     exact J28 _ (pc 47 rfl (pc 2 rfl (pc 45 rfl pn)))
   refine kl_as rfl (kl_nil (kq_code (kc_ret (kq_retP rfl rfl (congrArg Value.bool ?_)))))
   first | (exfalso; omega) | (simp [fitsB, rowsInB, *])
  ·skip
   refine kc_seq (kc_seq (kc_region (kl_eql rfl rfl ?_)))
   refine kl_as rfl (kl_nil (kq_code (kc_if rfl (fun c29 => ?_) (fun c29 => ?_))))
   ·skip
    refine kc_skipQ (kq_code (kc_if rfl (fun c30 => ?_) (fun c30 => ?_)))
    ·skip
     refine kc_seq (kc_region (kl_fd rfl (by assumption) (fun p31 a32 => ?_)))
     refine kl_ld rfl (by assumption) (kl_len rfl (by assumption) (fun l33 => ?_))
     refine kl_eql rfl rfl ?_
     refine kl_mv rfl (kl_join 2 57 (.bool (decide ((c.args.length : Int) = (0 : Int)) && decide (c.bound = (0 : Int)))) (pc 2 rfl (pc 5 rfl (pc 55 rfl pn))) (fun J35 => ?_) ?_)
     ·rcases Bool.eq_false_or_eq_true (decide ((c.args.length : Int) = (0 : Int))) with g34 | g34
      ·skip
       have g34p := of_decide_eq_true g34
       refine kl_gT rfl rfl g34 (kl_mv rfl (kl_andT rfl rfl g34 ?_))
       exact J35 _ (pc 57 rfl (pc 2 rfl (pc 5 rfl (pc 55 rfl pn))))
      ·skip
       refine kl_gF rfl rfl g34 (kl_andF (decide (c.bound = (0 : Int))) rfl rfl g34 ?_)
       exact J35 _ (pc 57 rfl (pc 2 rfl (pc 5 rfl (pc 55 rfl pn))))
     refine kl_mv rfl (kl_join 2 60 (.bool ((decide ((c.args.length : Int) = (0 : Int)) && decide (c.bound = (0 : Int))) && decide ((c.rows.length : Int) = (0 : Int)))) (pc 2 rfl (pc 58 rfl pn)) (fun J37 => ?_) ?_)
     ·rcases Bool.eq_false_or_eq_true (decide ((c.args.length : Int) = (0 : Int)) && decide (c.bound = (0 : Int))) with g36 | g36
      ·skip
       have g36p := g36
       try simp only [Bool.not_eq_true', Bool.not_eq_false', decide_eq_true_eq, decide_eq_false_iff_not, Bool.and_eq_true, Bool.or_eq_false_iff, withinB_iff] at g36p
       refine kl_gT rfl rfl g36 (kl_mv rfl (kl_andT rfl rfl g36 ?_))
       exact J37 _ (pc 60 rfl (pc 2 rfl (pc 58 rfl pn)))
      ·skip
       refine kl_gF rfl rfl g36 (kl_andF (decide ((c.rows.length : Int) = (0 : Int))) rfl rfl g36 ?_)
       exact J37 _ (pc 60 rfl (pc 2 rfl (pc 58 rfl pn)))
     refine kl_as rfl (kl_nil (kq_code (kc_ret (kq_retP rfl rfl (congrArg Value.bool ?_)))))
     first | (exfalso; omega) | (simp [fitsB, rowsInB, *])
    ·skip
     refine kc_seq (kc_region (kl_eql rfl rfl ?_))
     refine kl_as rfl (kl_nil (kq_code (kc_if rfl (fun c38 => ?_) (fun c38 => ?_))))
     ·skip
      refine kc_seq (kc_region (kl_mv rfl (kl_eql rfl rfl ?_)))
      refine kl_mv rfl (kl_join 5 70 (.bool (decide ((c.vars.length : Int) = (2 : Int)) && (withinB (c.args.length : Int) (1 : Int) (6 : Int)))) (pc 1 rfl (pc 2 rfl (pc 5 rfl (pc 6 rfl (pc 65 rfl pn))))) (fun J43 => ?_) ?_)
      ·rcases Bool.eq_false_or_eq_true (decide ((c.vars.length : Int) = (2 : Int))) with g39 | g39
       ·skip
        have g39p := of_decide_eq_true g39
        refine kl_gT rfl rfl g39 (kl_fd rfl (by assumption) (fun p40 a41 => ?_))
        refine kl_gT rfl rfl g39 (kl_ld rfl (by assumption) (kl_gT rfl rfl g39 (kl_len rfl (by assumption) (fun l42 => ?_))))
        refine kl_gT rfl rfl g39 (kl_callP rfl rfl (within_ok (c.args.length : Int) (1 : Int) (6 : Int)) ?_)
        refine kl_andT rfl rfl g39 ?_
        exact J43 _ (pc 70 rfl (pc 1 rfl (pc 2 rfl (pc 5 rfl (pc 6 rfl (pc 65 rfl pn))))))
       ·skip
        refine kl_gF rfl rfl g39 (kl_gF rfl rfl g39 (kl_gF rfl rfl g39 (kl_gF rfl rfl g39 (kl_andF (withinB (c.args.length : Int) (1 : Int) (6 : Int)) rfl rfl g39 ?_))))
        exact J43 _ (pc 70 rfl (pc 1 rfl (pc 2 rfl (pc 5 rfl (pc 6 rfl (pc 65 rfl pn))))))
      refine kl_mv rfl (kl_join 4 75 (.bool ((decide ((c.vars.length : Int) = (2 : Int)) && (withinB (c.args.length : Int) (1 : Int) (6 : Int))) && (allInB c.args (0 : Int) (5 : Int)))) (pc 2 rfl (pc 5 rfl (pc 6 rfl (pc 71 rfl pn)))) (fun J47 => ?_) ?_)
      ·rcases Bool.eq_false_or_eq_true (decide ((c.vars.length : Int) = (2 : Int)) && (withinB (c.args.length : Int) (1 : Int) (6 : Int))) with g44 | g44
       ·skip
        have g44p := g44
        try simp only [Bool.not_eq_true', Bool.not_eq_false', decide_eq_true_eq, decide_eq_false_iff_not, Bool.and_eq_true, Bool.or_eq_false_iff, withinB_iff] at g44p
        refine kl_gT rfl rfl g44 (kl_fd rfl (by assumption) (fun p45 a46 => ?_))
        refine kl_gT rfl rfl g44 (kl_ld rfl (by assumption) (kl_gT rfl rfl g44 (kl_callP rfl rfl (allIn_ok c.args (0 : Int) (5 : Int) (by assumption)) ?_)))
        refine kl_andT rfl rfl g44 ?_
        exact J47 _ (pc 75 rfl (pc 2 rfl (pc 5 rfl (pc 6 rfl (pc 71 rfl pn)))))
       ·skip
        refine kl_gF rfl rfl g44 (kl_gF rfl rfl g44 (kl_gF rfl rfl g44 (kl_andF (allInB c.args (0 : Int) (5 : Int)) rfl rfl g44 ?_)))
        exact J47 _ (pc 75 rfl (pc 2 rfl (pc 5 rfl (pc 6 rfl (pc 71 rfl pn)))))
      refine kl_mv rfl (kl_join 2 78 (.bool (((decide ((c.vars.length : Int) = (2 : Int)) && (withinB (c.args.length : Int) (1 : Int) (6 : Int))) && (allInB c.args (0 : Int) (5 : Int))) && decide (c.bound = (0 : Int)))) (pc 2 rfl (pc 5 rfl (pc 76 rfl pn))) (fun J49 => ?_) ?_)
      ·rcases Bool.eq_false_or_eq_true ((decide ((c.vars.length : Int) = (2 : Int)) && (withinB (c.args.length : Int) (1 : Int) (6 : Int))) && (allInB c.args (0 : Int) (5 : Int))) with g48 | g48
       ·skip
        have g48p := g48
        try simp only [Bool.not_eq_true', Bool.not_eq_false', decide_eq_true_eq, decide_eq_false_iff_not, Bool.and_eq_true, Bool.or_eq_false_iff, withinB_iff] at g48p
        refine kl_gT rfl rfl g48 (kl_mv rfl (kl_andT rfl rfl g48 ?_))
        exact J49 _ (pc 78 rfl (pc 2 rfl (pc 5 rfl (pc 76 rfl pn))))
       ·skip
        refine kl_gF rfl rfl g48 (kl_andF (decide (c.bound = (0 : Int))) rfl rfl g48 ?_)
        exact J49 _ (pc 78 rfl (pc 2 rfl (pc 5 rfl (pc 76 rfl pn))))
      refine kl_mv rfl (kl_join 2 81 (.bool ((((decide ((c.vars.length : Int) = (2 : Int)) && (withinB (c.args.length : Int) (1 : Int) (6 : Int))) && (allInB c.args (0 : Int) (5 : Int))) && decide (c.bound = (0 : Int))) && decide ((c.rows.length : Int) = (0 : Int)))) (pc 2 rfl (pc 79 rfl pn)) (fun J51 => ?_) ?_)
      ·rcases Bool.eq_false_or_eq_true (((decide ((c.vars.length : Int) = (2 : Int)) && (withinB (c.args.length : Int) (1 : Int) (6 : Int))) && (allInB c.args (0 : Int) (5 : Int))) && decide (c.bound = (0 : Int))) with g50 | g50
       ·skip
        have g50p := g50
        try simp only [Bool.not_eq_true', Bool.not_eq_false', decide_eq_true_eq, decide_eq_false_iff_not, Bool.and_eq_true, Bool.or_eq_false_iff, withinB_iff] at g50p
        refine kl_gT rfl rfl g50 (kl_mv rfl (kl_andT rfl rfl g50 ?_))
        exact J51 _ (pc 81 rfl (pc 2 rfl (pc 79 rfl pn)))
       ·skip
        refine kl_gF rfl rfl g50 (kl_andF (decide ((c.rows.length : Int) = (0 : Int))) rfl rfl g50 ?_)
        exact J51 _ (pc 81 rfl (pc 2 rfl (pc 79 rfl pn)))
      refine kl_as rfl (kl_nil (kq_code (kc_ret (kq_retP rfl rfl (congrArg Value.bool ?_)))))
      first | (exfalso; omega) | (simp [fitsB, rowsInB, *])
     ·skip
      refine kc_seq (kc_region (kl_eql rfl rfl ?_))
      refine kl_as rfl (kl_nil (kq_code (kc_if rfl (fun c52 => ?_) (fun c52 => ?_))))
      ·skip
       refine kc_seq (kc_region (kl_fd rfl (by assumption) (fun p53 a54 => ?_)))
       refine kl_ld rfl (by assumption) (kl_len rfl (by assumption) (fun l55 => ?_))
       refine kl_eql rfl rfl ?_
       refine kl_mv rfl (kl_join 2 90 (.bool (decide ((c.args.length : Int) = (0 : Int)) && decide (c.bound = (0 : Int)))) (pc 1 rfl (pc 2 rfl (pc 3 rfl (pc 88 rfl pn)))) (fun J57 => ?_) ?_)
       ·rcases Bool.eq_false_or_eq_true (decide ((c.args.length : Int) = (0 : Int))) with g56 | g56
        ·skip
         have g56p := of_decide_eq_true g56
         refine kl_gT rfl rfl g56 (kl_mv rfl (kl_andT rfl rfl g56 ?_))
         exact J57 _ (pc 90 rfl (pc 1 rfl (pc 2 rfl (pc 3 rfl (pc 88 rfl pn)))))
        ·skip
         refine kl_gF rfl rfl g56 (kl_andF (decide (c.bound = (0 : Int))) rfl rfl g56 ?_)
         exact J57 _ (pc 90 rfl (pc 1 rfl (pc 2 rfl (pc 3 rfl (pc 88 rfl pn)))))
       refine kl_mv rfl (kl_join 5 96 (.bool ((decide ((c.args.length : Int) = (0 : Int)) && decide (c.bound = (0 : Int))) && (withinB c.rows.length 1 8 && c.rows.all fun r => decide ((r.length : Int) = (c.vars.length : Int)) && allInB r (0 : Int) (5 : Int)))) (pc 2 rfl (pc 91 rfl pn)) (fun J61 => ?_) ?_)
       ·rcases Bool.eq_false_or_eq_true (decide ((c.args.length : Int) = (0 : Int)) && decide (c.bound = (0 : Int))) with g58 | g58
        ·skip
         have g58p := g58
         try simp only [Bool.not_eq_true', Bool.not_eq_false', decide_eq_true_eq, decide_eq_false_iff_not, Bool.and_eq_true, Bool.or_eq_false_iff, withinB_iff] at g58p
         refine kl_gT rfl rfl g58 (kl_fd rfl (by assumption) (fun p59 a60 => ?_))
         refine kl_gT rfl rfl g58 (kl_ld rfl (by assumption) (kl_gT rfl rfl g58 (kl_mv rfl (kl_gT rfl rfl g58 (kl_callP rfl rfl (rowsIn_ok c.rows (c.vars.length : Int) (0 : Int) (5 : Int) (by assumption)) ?_)))))
         refine kl_andT rfl rfl g58 ?_
         exact J61 _ (pc 96 rfl (pc 2 rfl (pc 91 rfl pn)))
        ·skip
         refine kl_gF rfl rfl g58 (kl_gF rfl rfl g58 (kl_gF rfl rfl g58 (kl_gF rfl rfl g58 (kl_andF (withinB c.rows.length 1 8 && c.rows.all fun r => decide ((r.length : Int) = (c.vars.length : Int)) && allInB r (0 : Int) (5 : Int)) rfl rfl g58 ?_))))
         exact J61 _ (pc 96 rfl (pc 2 rfl (pc 91 rfl pn)))
       refine kl_as rfl (kl_nil (kq_code (kc_ret (kq_retP rfl rfl (congrArg Value.bool ?_)))))
       first | (exfalso; omega) | (simp [fitsB, rowsInB, *])
      ·skip
       refine kc_seq (kc_region (kl_eql rfl rfl ?_))
       refine kl_as rfl (kl_nil (kq_code (kc_if rfl (fun c62 => ?_) (fun c62 => ?_))))
       ·skip
        refine kc_seq (kc_region (kl_mv rfl (kl_callP rfl rfl (fits1_ok (1 : Int) (0 : Int) (5 : Int) c (by assumption) (by assumption) (by assumption) (by assumption)) ?_)))
        refine kl_mv rfl (kl_join 4 105 (.bool ((decide ((c.args.length : Int) = (1 : Int)) && allInB c.args (0 : Int) (5 : Int)) && (withinB c.bound (0 : Int) (4 : Int)))) (pc 2 rfl (pc 5 rfl (pc 101 rfl pn))) (fun J66 => ?_) ?_)
        ·rcases Bool.eq_false_or_eq_true (decide ((c.args.length : Int) = (1 : Int)) && allInB c.args (0 : Int) (5 : Int)) with g63 | g63
         ·skip
          have g63p := g63
          try simp only [Bool.not_eq_true', Bool.not_eq_false', decide_eq_true_eq, decide_eq_false_iff_not, Bool.and_eq_true, Bool.or_eq_false_iff, withinB_iff] at g63p
          refine kl_gT rfl rfl g63 (kl_fd rfl (by assumption) (fun p64 a65 => ?_))
          refine kl_gT rfl rfl g63 (kl_ld rfl (by assumption) (kl_gT rfl rfl g63 (kl_callP rfl rfl (within_ok c.bound (0 : Int) (4 : Int)) ?_)))
          refine kl_andT rfl rfl g63 ?_
          exact J66 _ (pc 105 rfl (pc 2 rfl (pc 5 rfl (pc 101 rfl pn))))
         ·skip
          refine kl_gF rfl rfl g63 (kl_gF rfl rfl g63 (kl_gF rfl rfl g63 (kl_andF (withinB c.bound (0 : Int) (4 : Int)) rfl rfl g63 ?_)))
          exact J66 _ (pc 105 rfl (pc 2 rfl (pc 5 rfl (pc 101 rfl pn))))
        refine kl_mv rfl (kl_join 2 108 (.bool (((decide ((c.args.length : Int) = (1 : Int)) && allInB c.args (0 : Int) (5 : Int)) && (withinB c.bound (0 : Int) (4 : Int))) && decide ((c.rows.length : Int) = (0 : Int)))) (pc 2 rfl (pc 106 rfl pn)) (fun J68 => ?_) ?_)
        ·rcases Bool.eq_false_or_eq_true ((decide ((c.args.length : Int) = (1 : Int)) && allInB c.args (0 : Int) (5 : Int)) && (withinB c.bound (0 : Int) (4 : Int))) with g67 | g67
         ·skip
          have g67p := g67
          try simp only [Bool.not_eq_true', Bool.not_eq_false', decide_eq_true_eq, decide_eq_false_iff_not, Bool.and_eq_true, Bool.or_eq_false_iff, withinB_iff] at g67p
          refine kl_gT rfl rfl g67 (kl_mv rfl (kl_andT rfl rfl g67 ?_))
          exact J68 _ (pc 108 rfl (pc 2 rfl (pc 106 rfl pn)))
         ·skip
          refine kl_gF rfl rfl g67 (kl_andF (decide ((c.rows.length : Int) = (0 : Int))) rfl rfl g67 ?_)
          exact J68 _ (pc 108 rfl (pc 2 rfl (pc 106 rfl pn)))
        refine kl_as rfl (kl_nil (kq_code (kc_ret (kq_retP rfl rfl (congrArg Value.bool ?_)))))
        first | (exfalso; omega) | (simp [fitsB, rowsInB, *])
       ·skip
        refine kc_seq (kc_region (kl_eql rfl rfl ?_))
        refine kl_as rfl (kl_nil (kq_code (kc_if rfl (fun c69 => ?_) (fun c69 => ?_))))
        ·skip
         refine kc_seq (kc_region (kl_mv rfl (kl_mv rfl (kl_mul rfl rfl (by omega) ?_))))
         refine kl_callP rfl rfl (fits1_ok ((2 : Int) * (c.vars.length : Int)) (0 : Int) (9 : Int) c (by assumption) (by assumption) (by assumption) (by assumption)) ?_
         refine kl_mv rfl (kl_join 4 119 (.bool ((decide ((c.args.length : Int) = ((2 : Int) * (c.vars.length : Int))) && allInB c.args (0 : Int) (9 : Int)) && (withinB c.bound (0 : Int) (9 : Int)))) (pc 2 rfl (pc 5 rfl (pc 115 rfl pn))) (fun J73 => ?_) ?_)
         ·rcases Bool.eq_false_or_eq_true (decide ((c.args.length : Int) = ((2 : Int) * (c.vars.length : Int))) && allInB c.args (0 : Int) (9 : Int)) with g70 | g70
          ·skip
           have g70p := g70
           try simp only [Bool.not_eq_true', Bool.not_eq_false', decide_eq_true_eq, decide_eq_false_iff_not, Bool.and_eq_true, Bool.or_eq_false_iff, withinB_iff] at g70p
           refine kl_gT rfl rfl g70 (kl_fd rfl (by assumption) (fun p71 a72 => ?_))
           refine kl_gT rfl rfl g70 (kl_ld rfl (by assumption) (kl_gT rfl rfl g70 (kl_callP rfl rfl (within_ok c.bound (0 : Int) (9 : Int)) ?_)))
           refine kl_andT rfl rfl g70 ?_
           exact J73 _ (pc 119 rfl (pc 2 rfl (pc 5 rfl (pc 115 rfl pn))))
          ·skip
           refine kl_gF rfl rfl g70 (kl_gF rfl rfl g70 (kl_gF rfl rfl g70 (kl_andF (withinB c.bound (0 : Int) (9 : Int)) rfl rfl g70 ?_)))
           exact J73 _ (pc 119 rfl (pc 2 rfl (pc 5 rfl (pc 115 rfl pn))))
         refine kl_mv rfl (kl_join 2 122 (.bool (((decide ((c.args.length : Int) = ((2 : Int) * (c.vars.length : Int))) && allInB c.args (0 : Int) (9 : Int)) && (withinB c.bound (0 : Int) (9 : Int))) && decide ((c.rows.length : Int) = (0 : Int)))) (pc 2 rfl (pc 120 rfl pn)) (fun J75 => ?_) ?_)
         ·rcases Bool.eq_false_or_eq_true ((decide ((c.args.length : Int) = ((2 : Int) * (c.vars.length : Int))) && allInB c.args (0 : Int) (9 : Int)) && (withinB c.bound (0 : Int) (9 : Int))) with g74 | g74
          ·skip
           have g74p := g74
           try simp only [Bool.not_eq_true', Bool.not_eq_false', decide_eq_true_eq, decide_eq_false_iff_not, Bool.and_eq_true, Bool.or_eq_false_iff, withinB_iff] at g74p
           refine kl_gT rfl rfl g74 (kl_mv rfl (kl_andT rfl rfl g74 ?_))
           exact J75 _ (pc 122 rfl (pc 2 rfl (pc 120 rfl pn)))
          ·skip
           refine kl_gF rfl rfl g74 (kl_andF (decide ((c.rows.length : Int) = (0 : Int))) rfl rfl g74 ?_)
           exact J75 _ (pc 122 rfl (pc 2 rfl (pc 120 rfl pn)))
         refine kl_as rfl (kl_nil (kq_code (kc_ret (kq_retP rfl rfl (congrArg Value.bool ?_)))))
         first | (exfalso; omega) | (simp [fitsB, rowsInB, *])
        ·skip
         refine kc_seq (kc_region (kl_eql rfl rfl ?_))
         refine kl_as rfl (kl_nil (kq_code (kc_if rfl (fun c76 => ?_) (fun c76 => ?_))))
         ·skip
          refine kc_seq (kc_region (kl_fd rfl (by assumption) (fun p77 a78 => ?_)))
          refine kl_ld rfl (by assumption) (kl_len rfl (by assumption) (fun l79 => ?_))
          refine kl_sub rfl rfl (by omega) ?_
          refine kl_as rfl (kl_nil (kq_code (kc_seq (kc_region (kl_fd rfl (by assumption) (fun p80 a81 => ?_))))))
          refine kl_ld rfl (by assumption) (kl_mv rfl (kl_callP rfl rfl (rowsIn_ok c.rows (6 : Int) (-1 : Int) ((c.rows.length : Int) - (1 : Int)) (by assumption)) ?_))
          refine kl_mv rfl (kl_join 4 137 (.bool ((withinB c.rows.length 1 8 && c.rows.all fun r => decide ((r.length : Int) = (6 : Int)) && allInB r (-1 : Int) ((c.rows.length : Int) - (1 : Int))) && (distinctB c.args))) (pc 1 rfl (pc 2 rfl (pc 6 rfl (pc 7 rfl (pc 133 rfl pn))))) (fun J85 => ?_) ?_)
          ·rcases Bool.eq_false_or_eq_true (withinB c.rows.length 1 8 && c.rows.all fun r => decide ((r.length : Int) = (6 : Int)) && allInB r (-1 : Int) ((c.rows.length : Int) - (1 : Int))) with g82 | g82
           ·skip
            have g82p := g82
            try simp only [Bool.not_eq_true', Bool.not_eq_false', decide_eq_true_eq, decide_eq_false_iff_not, Bool.and_eq_true, Bool.or_eq_false_iff, withinB_iff] at g82p
            refine kl_gT rfl rfl g82 (kl_fd rfl (by assumption) (fun p83 a84 => ?_))
            refine kl_gT rfl rfl g82 (kl_ld rfl (by assumption) (kl_gT rfl rfl g82 (kl_callP rfl rfl (distinct_ok c.args (by assumption)) ?_)))
            refine kl_andT rfl rfl g82 ?_
            exact J85 _ (pc 137 rfl (pc 1 rfl (pc 2 rfl (pc 6 rfl (pc 7 rfl (pc 133 rfl pn))))))
           ·skip
            refine kl_gF rfl rfl g82 (kl_gF rfl rfl g82 (kl_gF rfl rfl g82 (kl_andF (distinctB c.args) rfl rfl g82 ?_)))
            exact J85 _ (pc 137 rfl (pc 1 rfl (pc 2 rfl (pc 6 rfl (pc 7 rfl (pc 133 rfl pn))))))
          refine kl_mv rfl (kl_join 5 143 (.bool (((withinB c.rows.length 1 8 && c.rows.all fun r => decide ((r.length : Int) = (6 : Int)) && allInB r (-1 : Int) ((c.rows.length : Int) - (1 : Int))) && (distinctB c.args)) && (allInB c.args (0 : Int) ((c.rows.length : Int) - (1 : Int))))) (pc 2 rfl (pc 6 rfl (pc 138 rfl pn))) (fun J89 => ?_) ?_)
          ·rcases Bool.eq_false_or_eq_true ((withinB c.rows.length 1 8 && c.rows.all fun r => decide ((r.length : Int) = (6 : Int)) && allInB r (-1 : Int) ((c.rows.length : Int) - (1 : Int))) && (distinctB c.args)) with g86 | g86
           ·skip
            have g86p := g86
            try simp only [Bool.not_eq_true', Bool.not_eq_false', decide_eq_true_eq, decide_eq_false_iff_not, Bool.and_eq_true, Bool.or_eq_false_iff, withinB_iff] at g86p
            refine kl_gT rfl rfl g86 (kl_fd rfl (by assumption) (fun p87 a88 => ?_))
            refine kl_gT rfl rfl g86 (kl_ld rfl (by assumption) (kl_gT rfl rfl g86 (kl_mv rfl (kl_gT rfl rfl g86 (kl_callP rfl rfl (allIn_ok c.args (0 : Int) ((c.rows.length : Int) - (1 : Int)) (by assumption)) ?_)))))
            refine kl_andT rfl rfl g86 ?_
            exact J89 _ (pc 143 rfl (pc 2 rfl (pc 6 rfl (pc 138 rfl pn))))
           ·skip
            refine kl_gF rfl rfl g86 (kl_gF rfl rfl g86 (kl_gF rfl rfl g86 (kl_gF rfl rfl g86 (kl_andF (allInB c.args (0 : Int) ((c.rows.length : Int) - (1 : Int))) rfl rfl g86 ?_))))
            exact J89 _ (pc 143 rfl (pc 2 rfl (pc 6 rfl (pc 138 rfl pn))))
          refine kl_mv rfl (kl_join 2 146 (.bool ((((withinB c.rows.length 1 8 && c.rows.all fun r => decide ((r.length : Int) = (6 : Int)) && allInB r (-1 : Int) ((c.rows.length : Int) - (1 : Int))) && (distinctB c.args)) && (allInB c.args (0 : Int) ((c.rows.length : Int) - (1 : Int)))) && decide (c.bound = (0 : Int)))) (pc 2 rfl (pc 144 rfl pn)) (fun J91 => ?_) ?_)
          ·rcases Bool.eq_false_or_eq_true (((withinB c.rows.length 1 8 && c.rows.all fun r => decide ((r.length : Int) = (6 : Int)) && allInB r (-1 : Int) ((c.rows.length : Int) - (1 : Int))) && (distinctB c.args)) && (allInB c.args (0 : Int) ((c.rows.length : Int) - (1 : Int)))) with g90 | g90
           ·skip
            have g90p := g90
            try simp only [Bool.not_eq_true', Bool.not_eq_false', decide_eq_true_eq, decide_eq_false_iff_not, Bool.and_eq_true, Bool.or_eq_false_iff, withinB_iff] at g90p
            refine kl_gT rfl rfl g90 (kl_mv rfl (kl_andT rfl rfl g90 ?_))
            exact J91 _ (pc 146 rfl (pc 2 rfl (pc 144 rfl pn)))
           ·skip
            refine kl_gF rfl rfl g90 (kl_andF (decide (c.bound = (0 : Int))) rfl rfl g90 ?_)
            exact J91 _ (pc 146 rfl (pc 2 rfl (pc 144 rfl pn)))
          refine kl_as rfl (kl_nil (kq_code (kc_ret (kq_retP rfl rfl (congrArg Value.bool ?_)))))
          first | (exfalso; omega) | (simp [fitsB, rowsInB, *])
         ·skip
          refine kc_skipQ (kq_code (kc_seq (kc_region (kl_as rfl (kl_nil (kq_code (kc_ret (kq_retP rfl rfl (congrArg Value.bool ?_)))))))))
          first | (exfalso; omega) | (simp [fitsB, rowsInB, *])
   ·skip
    refine kc_region (kl_eql rfl rfl ?_)
    refine kl_as rfl (kl_nil (kq_code (kc_if rfl (fun c92 => ?_) (fun c92 => ?_))))
    ·skip
     refine kc_seq (kc_region (kl_fd rfl (by assumption) (fun p93 a94 => ?_)))
     refine kl_ld rfl (by assumption) (kl_len rfl (by assumption) (fun l95 => ?_))
     refine kl_eql rfl rfl ?_
     refine kl_mv rfl (kl_join 2 57 (.bool (decide ((c.args.length : Int) = (0 : Int)) && decide (c.bound = (0 : Int)))) (pc 2 rfl (pc 5 rfl (pc 55 rfl pn))) (fun J97 => ?_) ?_)
     ·rcases Bool.eq_false_or_eq_true (decide ((c.args.length : Int) = (0 : Int))) with g96 | g96
      ·skip
       have g96p := of_decide_eq_true g96
       refine kl_gT rfl rfl g96 (kl_mv rfl (kl_andT rfl rfl g96 ?_))
       exact J97 _ (pc 57 rfl (pc 2 rfl (pc 5 rfl (pc 55 rfl pn))))
      ·skip
       refine kl_gF rfl rfl g96 (kl_andF (decide (c.bound = (0 : Int))) rfl rfl g96 ?_)
       exact J97 _ (pc 57 rfl (pc 2 rfl (pc 5 rfl (pc 55 rfl pn))))
     refine kl_mv rfl (kl_join 2 60 (.bool ((decide ((c.args.length : Int) = (0 : Int)) && decide (c.bound = (0 : Int))) && decide ((c.rows.length : Int) = (0 : Int)))) (pc 2 rfl (pc 58 rfl pn)) (fun J99 => ?_) ?_)
     ·rcases Bool.eq_false_or_eq_true (decide ((c.args.length : Int) = (0 : Int)) && decide (c.bound = (0 : Int))) with g98 | g98
      ·skip
       have g98p := g98
       try simp only [Bool.not_eq_true', Bool.not_eq_false', decide_eq_true_eq, decide_eq_false_iff_not, Bool.and_eq_true, Bool.or_eq_false_iff, withinB_iff] at g98p
       refine kl_gT rfl rfl g98 (kl_mv rfl (kl_andT rfl rfl g98 ?_))
       exact J99 _ (pc 60 rfl (pc 2 rfl (pc 58 rfl pn)))
      ·skip
       refine kl_gF rfl rfl g98 (kl_andF (decide ((c.rows.length : Int) = (0 : Int))) rfl rfl g98 ?_)
       exact J99 _ (pc 60 rfl (pc 2 rfl (pc 58 rfl pn)))
     refine kl_as rfl (kl_nil (kq_code (kc_ret (kq_retP rfl rfl (congrArg Value.bool ?_)))))
     first | (exfalso; omega) | (simp [fitsB, rowsInB, *])
    ·skip
     refine kc_seq (kc_region (kl_eql rfl rfl ?_))
     refine kl_as rfl (kl_nil (kq_code (kc_if rfl (fun c100 => ?_) (fun c100 => ?_))))
     ·skip
      refine kc_seq (kc_region (kl_mv rfl (kl_eql rfl rfl ?_)))
      refine kl_mv rfl (kl_join 5 70 (.bool (decide ((c.vars.length : Int) = (2 : Int)) && (withinB (c.args.length : Int) (1 : Int) (6 : Int)))) (pc 1 rfl (pc 2 rfl (pc 5 rfl (pc 6 rfl (pc 65 rfl pn))))) (fun J105 => ?_) ?_)
      ·rcases Bool.eq_false_or_eq_true (decide ((c.vars.length : Int) = (2 : Int))) with g101 | g101
       ·skip
        have g101p := of_decide_eq_true g101
        refine kl_gT rfl rfl g101 (kl_fd rfl (by assumption) (fun p102 a103 => ?_))
        refine kl_gT rfl rfl g101 (kl_ld rfl (by assumption) (kl_gT rfl rfl g101 (kl_len rfl (by assumption) (fun l104 => ?_))))
        refine kl_gT rfl rfl g101 (kl_callP rfl rfl (within_ok (c.args.length : Int) (1 : Int) (6 : Int)) ?_)
        refine kl_andT rfl rfl g101 ?_
        exact J105 _ (pc 70 rfl (pc 1 rfl (pc 2 rfl (pc 5 rfl (pc 6 rfl (pc 65 rfl pn))))))
       ·skip
        refine kl_gF rfl rfl g101 (kl_gF rfl rfl g101 (kl_gF rfl rfl g101 (kl_gF rfl rfl g101 (kl_andF (withinB (c.args.length : Int) (1 : Int) (6 : Int)) rfl rfl g101 ?_))))
        exact J105 _ (pc 70 rfl (pc 1 rfl (pc 2 rfl (pc 5 rfl (pc 6 rfl (pc 65 rfl pn))))))
      refine kl_mv rfl (kl_join 4 75 (.bool ((decide ((c.vars.length : Int) = (2 : Int)) && (withinB (c.args.length : Int) (1 : Int) (6 : Int))) && (allInB c.args (0 : Int) (5 : Int)))) (pc 2 rfl (pc 5 rfl (pc 6 rfl (pc 71 rfl pn)))) (fun J109 => ?_) ?_)
      ·rcases Bool.eq_false_or_eq_true (decide ((c.vars.length : Int) = (2 : Int)) && (withinB (c.args.length : Int) (1 : Int) (6 : Int))) with g106 | g106
       ·skip
        have g106p := g106
        try simp only [Bool.not_eq_true', Bool.not_eq_false', decide_eq_true_eq, decide_eq_false_iff_not, Bool.and_eq_true, Bool.or_eq_false_iff, withinB_iff] at g106p
        refine kl_gT rfl rfl g106 (kl_fd rfl (by assumption) (fun p107 a108 => ?_))
        refine kl_gT rfl rfl g106 (kl_ld rfl (by assumption) (kl_gT rfl rfl g106 (kl_callP rfl rfl (allIn_ok c.args (0 : Int) (5 : Int) (by assumption)) ?_)))
        refine kl_andT rfl rfl g106 ?_
        exact J109 _ (pc 75 rfl (pc 2 rfl (pc 5 rfl (pc 6 rfl (pc 71 rfl pn)))))
       ·skip
        refine kl_gF rfl rfl g106 (kl_gF rfl rfl g106 (kl_gF rfl rfl g106 (kl_andF (allInB c.args (0 : Int) (5 : Int)) rfl rfl g106 ?_)))
        exact J109 _ (pc 75 rfl (pc 2 rfl (pc 5 rfl (pc 6 rfl (pc 71 rfl pn)))))
      refine kl_mv rfl (kl_join 2 78 (.bool (((decide ((c.vars.length : Int) = (2 : Int)) && (withinB (c.args.length : Int) (1 : Int) (6 : Int))) && (allInB c.args (0 : Int) (5 : Int))) && decide (c.bound = (0 : Int)))) (pc 2 rfl (pc 5 rfl (pc 76 rfl pn))) (fun J111 => ?_) ?_)
      ·rcases Bool.eq_false_or_eq_true ((decide ((c.vars.length : Int) = (2 : Int)) && (withinB (c.args.length : Int) (1 : Int) (6 : Int))) && (allInB c.args (0 : Int) (5 : Int))) with g110 | g110
       ·skip
        have g110p := g110
        try simp only [Bool.not_eq_true', Bool.not_eq_false', decide_eq_true_eq, decide_eq_false_iff_not, Bool.and_eq_true, Bool.or_eq_false_iff, withinB_iff] at g110p
        refine kl_gT rfl rfl g110 (kl_mv rfl (kl_andT rfl rfl g110 ?_))
        exact J111 _ (pc 78 rfl (pc 2 rfl (pc 5 rfl (pc 76 rfl pn))))
       ·skip
        refine kl_gF rfl rfl g110 (kl_andF (decide (c.bound = (0 : Int))) rfl rfl g110 ?_)
        exact J111 _ (pc 78 rfl (pc 2 rfl (pc 5 rfl (pc 76 rfl pn))))
      refine kl_mv rfl (kl_join 2 81 (.bool ((((decide ((c.vars.length : Int) = (2 : Int)) && (withinB (c.args.length : Int) (1 : Int) (6 : Int))) && (allInB c.args (0 : Int) (5 : Int))) && decide (c.bound = (0 : Int))) && decide ((c.rows.length : Int) = (0 : Int)))) (pc 2 rfl (pc 79 rfl pn)) (fun J113 => ?_) ?_)
      ·rcases Bool.eq_false_or_eq_true (((decide ((c.vars.length : Int) = (2 : Int)) && (withinB (c.args.length : Int) (1 : Int) (6 : Int))) && (allInB c.args (0 : Int) (5 : Int))) && decide (c.bound = (0 : Int))) with g112 | g112
       ·skip
        have g112p := g112
        try simp only [Bool.not_eq_true', Bool.not_eq_false', decide_eq_true_eq, decide_eq_false_iff_not, Bool.and_eq_true, Bool.or_eq_false_iff, withinB_iff] at g112p
        refine kl_gT rfl rfl g112 (kl_mv rfl (kl_andT rfl rfl g112 ?_))
        exact J113 _ (pc 81 rfl (pc 2 rfl (pc 79 rfl pn)))
       ·skip
        refine kl_gF rfl rfl g112 (kl_andF (decide ((c.rows.length : Int) = (0 : Int))) rfl rfl g112 ?_)
        exact J113 _ (pc 81 rfl (pc 2 rfl (pc 79 rfl pn)))
      refine kl_as rfl (kl_nil (kq_code (kc_ret (kq_retP rfl rfl (congrArg Value.bool ?_)))))
      first | (exfalso; omega) | (simp [fitsB, rowsInB, *])
     ·skip
      refine kc_seq (kc_region (kl_eql rfl rfl ?_))
      refine kl_as rfl (kl_nil (kq_code (kc_if rfl (fun c114 => ?_) (fun c114 => ?_))))
      ·skip
       refine kc_seq (kc_region (kl_fd rfl (by assumption) (fun p115 a116 => ?_)))
       refine kl_ld rfl (by assumption) (kl_len rfl (by assumption) (fun l117 => ?_))
       refine kl_eql rfl rfl ?_
       refine kl_mv rfl (kl_join 2 90 (.bool (decide ((c.args.length : Int) = (0 : Int)) && decide (c.bound = (0 : Int)))) (pc 1 rfl (pc 2 rfl (pc 3 rfl (pc 88 rfl pn)))) (fun J119 => ?_) ?_)
       ·rcases Bool.eq_false_or_eq_true (decide ((c.args.length : Int) = (0 : Int))) with g118 | g118
        ·skip
         have g118p := of_decide_eq_true g118
         refine kl_gT rfl rfl g118 (kl_mv rfl (kl_andT rfl rfl g118 ?_))
         exact J119 _ (pc 90 rfl (pc 1 rfl (pc 2 rfl (pc 3 rfl (pc 88 rfl pn)))))
        ·skip
         refine kl_gF rfl rfl g118 (kl_andF (decide (c.bound = (0 : Int))) rfl rfl g118 ?_)
         exact J119 _ (pc 90 rfl (pc 1 rfl (pc 2 rfl (pc 3 rfl (pc 88 rfl pn)))))
       refine kl_mv rfl (kl_join 5 96 (.bool ((decide ((c.args.length : Int) = (0 : Int)) && decide (c.bound = (0 : Int))) && (withinB c.rows.length 1 8 && c.rows.all fun r => decide ((r.length : Int) = (c.vars.length : Int)) && allInB r (0 : Int) (5 : Int)))) (pc 2 rfl (pc 91 rfl pn)) (fun J123 => ?_) ?_)
       ·rcases Bool.eq_false_or_eq_true (decide ((c.args.length : Int) = (0 : Int)) && decide (c.bound = (0 : Int))) with g120 | g120
        ·skip
         have g120p := g120
         try simp only [Bool.not_eq_true', Bool.not_eq_false', decide_eq_true_eq, decide_eq_false_iff_not, Bool.and_eq_true, Bool.or_eq_false_iff, withinB_iff] at g120p
         refine kl_gT rfl rfl g120 (kl_fd rfl (by assumption) (fun p121 a122 => ?_))
         refine kl_gT rfl rfl g120 (kl_ld rfl (by assumption) (kl_gT rfl rfl g120 (kl_mv rfl (kl_gT rfl rfl g120 (kl_callP rfl rfl (rowsIn_ok c.rows (c.vars.length : Int) (0 : Int) (5 : Int) (by assumption)) ?_)))))
         refine kl_andT rfl rfl g120 ?_
         exact J123 _ (pc 96 rfl (pc 2 rfl (pc 91 rfl pn)))
        ·skip
         refine kl_gF rfl rfl g120 (kl_gF rfl rfl g120 (kl_gF rfl rfl g120 (kl_gF rfl rfl g120 (kl_andF (withinB c.rows.length 1 8 && c.rows.all fun r => decide ((r.length : Int) = (c.vars.length : Int)) && allInB r (0 : Int) (5 : Int)) rfl rfl g120 ?_))))
         exact J123 _ (pc 96 rfl (pc 2 rfl (pc 91 rfl pn)))
       refine kl_as rfl (kl_nil (kq_code (kc_ret (kq_retP rfl rfl (congrArg Value.bool ?_)))))
       first | (exfalso; omega) | (simp [fitsB, rowsInB, *])
      ·skip
       refine kc_seq (kc_region (kl_eql rfl rfl ?_))
       refine kl_as rfl (kl_nil (kq_code (kc_if rfl (fun c124 => ?_) (fun c124 => ?_))))
       ·skip
        refine kc_seq (kc_region (kl_mv rfl (kl_callP rfl rfl (fits1_ok (1 : Int) (0 : Int) (5 : Int) c (by assumption) (by assumption) (by assumption) (by assumption)) ?_)))
        refine kl_mv rfl (kl_join 4 105 (.bool ((decide ((c.args.length : Int) = (1 : Int)) && allInB c.args (0 : Int) (5 : Int)) && (withinB c.bound (0 : Int) (4 : Int)))) (pc 2 rfl (pc 5 rfl (pc 101 rfl pn))) (fun J128 => ?_) ?_)
        ·rcases Bool.eq_false_or_eq_true (decide ((c.args.length : Int) = (1 : Int)) && allInB c.args (0 : Int) (5 : Int)) with g125 | g125
         ·skip
          have g125p := g125
          try simp only [Bool.not_eq_true', Bool.not_eq_false', decide_eq_true_eq, decide_eq_false_iff_not, Bool.and_eq_true, Bool.or_eq_false_iff, withinB_iff] at g125p
          refine kl_gT rfl rfl g125 (kl_fd rfl (by assumption) (fun p126 a127 => ?_))
          refine kl_gT rfl rfl g125 (kl_ld rfl (by assumption) (kl_gT rfl rfl g125 (kl_callP rfl rfl (within_ok c.bound (0 : Int) (4 : Int)) ?_)))
          refine kl_andT rfl rfl g125 ?_
          exact J128 _ (pc 105 rfl (pc 2 rfl (pc 5 rfl (pc 101 rfl pn))))
         ·skip
          refine kl_gF rfl rfl g125 (kl_gF rfl rfl g125 (kl_gF rfl rfl g125 (kl_andF (withinB c.bound (0 : Int) (4 : Int)) rfl rfl g125 ?_)))
          exact J128 _ (pc 105 rfl (pc 2 rfl (pc 5 rfl (pc 101 rfl pn))))
        refine kl_mv rfl (kl_join 2 108 (.bool (((decide ((c.args.length : Int) = (1 : Int)) && allInB c.args (0 : Int) (5 : Int)) && (withinB c.bound (0 : Int) (4 : Int))) && decide ((c.rows.length : Int) = (0 : Int)))) (pc 2 rfl (pc 106 rfl pn)) (fun J130 => ?_) ?_)
        ·rcases Bool.eq_false_or_eq_true ((decide ((c.args.length : Int) = (1 : Int)) && allInB c.args (0 : Int) (5 : Int)) && (withinB c.bound (0 : Int) (4 : Int))) with g129 | g129
         ·skip
          have g129p := g129
          try simp only [Bool.not_eq_true', Bool.not_eq_false', decide_eq_true_eq, decide_eq_false_iff_not, Bool.and_eq_true, Bool.or_eq_false_iff, withinB_iff] at g129p
          refine kl_gT rfl rfl g129 (kl_mv rfl (kl_andT rfl rfl g129 ?_))
          exact J130 _ (pc 108 rfl (pc 2 rfl (pc 106 rfl pn)))
         ·skip
          refine kl_gF rfl rfl g129 (kl_andF (decide ((c.rows.length : Int) = (0 : Int))) rfl rfl g129 ?_)
          exact J130 _ (pc 108 rfl (pc 2 rfl (pc 106 rfl pn)))
        refine kl_as rfl (kl_nil (kq_code (kc_ret (kq_retP rfl rfl (congrArg Value.bool ?_)))))
        first | (exfalso; omega) | (simp [fitsB, rowsInB, *])
       ·skip
        refine kc_seq (kc_region (kl_eql rfl rfl ?_))
        refine kl_as rfl (kl_nil (kq_code (kc_if rfl (fun c131 => ?_) (fun c131 => ?_))))
        ·skip
         refine kc_seq (kc_region (kl_mv rfl (kl_mv rfl (kl_mul rfl rfl (by omega) ?_))))
         refine kl_callP rfl rfl (fits1_ok ((2 : Int) * (c.vars.length : Int)) (0 : Int) (9 : Int) c (by assumption) (by assumption) (by assumption) (by assumption)) ?_
         refine kl_mv rfl (kl_join 4 119 (.bool ((decide ((c.args.length : Int) = ((2 : Int) * (c.vars.length : Int))) && allInB c.args (0 : Int) (9 : Int)) && (withinB c.bound (0 : Int) (9 : Int)))) (pc 2 rfl (pc 5 rfl (pc 115 rfl pn))) (fun J135 => ?_) ?_)
         ·rcases Bool.eq_false_or_eq_true (decide ((c.args.length : Int) = ((2 : Int) * (c.vars.length : Int))) && allInB c.args (0 : Int) (9 : Int)) with g132 | g132
          ·skip
           have g132p := g132
           try simp only [Bool.not_eq_true', Bool.not_eq_false', decide_eq_true_eq, decide_eq_false_iff_not, Bool.and_eq_true, Bool.or_eq_false_iff, withinB_iff] at g132p
           refine kl_gT rfl rfl g132 (kl_fd rfl (by assumption) (fun p133 a134 => ?_))
           refine kl_gT rfl rfl g132 (kl_ld rfl (by assumption) (kl_gT rfl rfl g132 (kl_callP rfl rfl (within_ok c.bound (0 : Int) (9 : Int)) ?_)))
           refine kl_andT rfl rfl g132 ?_
           exact J135 _ (pc 119 rfl (pc 2 rfl (pc 5 rfl (pc 115 rfl pn))))
          ·skip
           refine kl_gF rfl rfl g132 (kl_gF rfl rfl g132 (kl_gF rfl rfl g132 (kl_andF (withinB c.bound (0 : Int) (9 : Int)) rfl rfl g132 ?_)))
           exact J135 _ (pc 119 rfl (pc 2 rfl (pc 5 rfl (pc 115 rfl pn))))
         refine kl_mv rfl (kl_join 2 122 (.bool (((decide ((c.args.length : Int) = ((2 : Int) * (c.vars.length : Int))) && allInB c.args (0 : Int) (9 : Int)) && (withinB c.bound (0 : Int) (9 : Int))) && decide ((c.rows.length : Int) = (0 : Int)))) (pc 2 rfl (pc 120 rfl pn)) (fun J137 => ?_) ?_)
         ·rcases Bool.eq_false_or_eq_true ((decide ((c.args.length : Int) = ((2 : Int) * (c.vars.length : Int))) && allInB c.args (0 : Int) (9 : Int)) && (withinB c.bound (0 : Int) (9 : Int))) with g136 | g136
          ·skip
           have g136p := g136
           try simp only [Bool.not_eq_true', Bool.not_eq_false', decide_eq_true_eq, decide_eq_false_iff_not, Bool.and_eq_true, Bool.or_eq_false_iff, withinB_iff] at g136p
           refine kl_gT rfl rfl g136 (kl_mv rfl (kl_andT rfl rfl g136 ?_))
           exact J137 _ (pc 122 rfl (pc 2 rfl (pc 120 rfl pn)))
          ·skip
           refine kl_gF rfl rfl g136 (kl_andF (decide ((c.rows.length : Int) = (0 : Int))) rfl rfl g136 ?_)
           exact J137 _ (pc 122 rfl (pc 2 rfl (pc 120 rfl pn)))
         refine kl_as rfl (kl_nil (kq_code (kc_ret (kq_retP rfl rfl (congrArg Value.bool ?_)))))
         first | (exfalso; omega) | (simp [fitsB, rowsInB, *])
        ·skip
         refine kc_seq (kc_region (kl_eql rfl rfl ?_))
         refine kl_as rfl (kl_nil (kq_code (kc_if rfl (fun c138 => ?_) (fun c138 => ?_))))
         ·skip
          refine kc_seq (kc_region (kl_fd rfl (by assumption) (fun p139 a140 => ?_)))
          refine kl_ld rfl (by assumption) (kl_len rfl (by assumption) (fun l141 => ?_))
          refine kl_sub rfl rfl (by omega) ?_
          refine kl_as rfl (kl_nil (kq_code (kc_seq (kc_region (kl_fd rfl (by assumption) (fun p142 a143 => ?_))))))
          refine kl_ld rfl (by assumption) (kl_mv rfl (kl_callP rfl rfl (rowsIn_ok c.rows (6 : Int) (-1 : Int) ((c.rows.length : Int) - (1 : Int)) (by assumption)) ?_))
          refine kl_mv rfl (kl_join 4 137 (.bool ((withinB c.rows.length 1 8 && c.rows.all fun r => decide ((r.length : Int) = (6 : Int)) && allInB r (-1 : Int) ((c.rows.length : Int) - (1 : Int))) && (distinctB c.args))) (pc 1 rfl (pc 2 rfl (pc 6 rfl (pc 7 rfl (pc 133 rfl pn))))) (fun J147 => ?_) ?_)
          ·rcases Bool.eq_false_or_eq_true (withinB c.rows.length 1 8 && c.rows.all fun r => decide ((r.length : Int) = (6 : Int)) && allInB r (-1 : Int) ((c.rows.length : Int) - (1 : Int))) with g144 | g144
           ·skip
            have g144p := g144
            try simp only [Bool.not_eq_true', Bool.not_eq_false', decide_eq_true_eq, decide_eq_false_iff_not, Bool.and_eq_true, Bool.or_eq_false_iff, withinB_iff] at g144p
            refine kl_gT rfl rfl g144 (kl_fd rfl (by assumption) (fun p145 a146 => ?_))
            refine kl_gT rfl rfl g144 (kl_ld rfl (by assumption) (kl_gT rfl rfl g144 (kl_callP rfl rfl (distinct_ok c.args (by assumption)) ?_)))
            refine kl_andT rfl rfl g144 ?_
            exact J147 _ (pc 137 rfl (pc 1 rfl (pc 2 rfl (pc 6 rfl (pc 7 rfl (pc 133 rfl pn))))))
           ·skip
            refine kl_gF rfl rfl g144 (kl_gF rfl rfl g144 (kl_gF rfl rfl g144 (kl_andF (distinctB c.args) rfl rfl g144 ?_)))
            exact J147 _ (pc 137 rfl (pc 1 rfl (pc 2 rfl (pc 6 rfl (pc 7 rfl (pc 133 rfl pn))))))
          refine kl_mv rfl (kl_join 5 143 (.bool (((withinB c.rows.length 1 8 && c.rows.all fun r => decide ((r.length : Int) = (6 : Int)) && allInB r (-1 : Int) ((c.rows.length : Int) - (1 : Int))) && (distinctB c.args)) && (allInB c.args (0 : Int) ((c.rows.length : Int) - (1 : Int))))) (pc 2 rfl (pc 6 rfl (pc 138 rfl pn))) (fun J151 => ?_) ?_)
          ·rcases Bool.eq_false_or_eq_true ((withinB c.rows.length 1 8 && c.rows.all fun r => decide ((r.length : Int) = (6 : Int)) && allInB r (-1 : Int) ((c.rows.length : Int) - (1 : Int))) && (distinctB c.args)) with g148 | g148
           ·skip
            have g148p := g148
            try simp only [Bool.not_eq_true', Bool.not_eq_false', decide_eq_true_eq, decide_eq_false_iff_not, Bool.and_eq_true, Bool.or_eq_false_iff, withinB_iff] at g148p
            refine kl_gT rfl rfl g148 (kl_fd rfl (by assumption) (fun p149 a150 => ?_))
            refine kl_gT rfl rfl g148 (kl_ld rfl (by assumption) (kl_gT rfl rfl g148 (kl_mv rfl (kl_gT rfl rfl g148 (kl_callP rfl rfl (allIn_ok c.args (0 : Int) ((c.rows.length : Int) - (1 : Int)) (by assumption)) ?_)))))
            refine kl_andT rfl rfl g148 ?_
            exact J151 _ (pc 143 rfl (pc 2 rfl (pc 6 rfl (pc 138 rfl pn))))
           ·skip
            refine kl_gF rfl rfl g148 (kl_gF rfl rfl g148 (kl_gF rfl rfl g148 (kl_gF rfl rfl g148 (kl_andF (allInB c.args (0 : Int) ((c.rows.length : Int) - (1 : Int))) rfl rfl g148 ?_))))
            exact J151 _ (pc 143 rfl (pc 2 rfl (pc 6 rfl (pc 138 rfl pn))))
          refine kl_mv rfl (kl_join 2 146 (.bool ((((withinB c.rows.length 1 8 && c.rows.all fun r => decide ((r.length : Int) = (6 : Int)) && allInB r (-1 : Int) ((c.rows.length : Int) - (1 : Int))) && (distinctB c.args)) && (allInB c.args (0 : Int) ((c.rows.length : Int) - (1 : Int)))) && decide (c.bound = (0 : Int)))) (pc 2 rfl (pc 144 rfl pn)) (fun J153 => ?_) ?_)
          ·rcases Bool.eq_false_or_eq_true (((withinB c.rows.length 1 8 && c.rows.all fun r => decide ((r.length : Int) = (6 : Int)) && allInB r (-1 : Int) ((c.rows.length : Int) - (1 : Int))) && (distinctB c.args)) && (allInB c.args (0 : Int) ((c.rows.length : Int) - (1 : Int)))) with g152 | g152
           ·skip
            have g152p := g152
            try simp only [Bool.not_eq_true', Bool.not_eq_false', decide_eq_true_eq, decide_eq_false_iff_not, Bool.and_eq_true, Bool.or_eq_false_iff, withinB_iff] at g152p
            refine kl_gT rfl rfl g152 (kl_mv rfl (kl_andT rfl rfl g152 ?_))
            exact J153 _ (pc 146 rfl (pc 2 rfl (pc 144 rfl pn)))
           ·skip
            refine kl_gF rfl rfl g152 (kl_andF (decide (c.bound = (0 : Int))) rfl rfl g152 ?_)
            exact J153 _ (pc 146 rfl (pc 2 rfl (pc 144 rfl pn)))
          refine kl_as rfl (kl_nil (kq_code (kc_ret (kq_retP rfl rfl (congrArg Value.bool ?_)))))
          first | (exfalso; omega) | (simp [fitsB, rowsInB, *])
         ·skip
          refine kc_skipQ (kq_code (kc_seq (kc_region (kl_as rfl (kl_nil (kq_code (kc_ret (kq_retP rfl rfl (congrArg Value.bool ?_)))))))))
          first | (exfalso; omega) | (simp [fitsB, rowsInB, *])
theorem validCon_ok {Hcv : Hp} {vcv : Value} {Hca : Hp} {vca : Value} {Hcr : Hp} {vcr : Value} (c : Con) (n : Int) (hn : -9223372036854775807 ≤ n ∧ n ≤ 9223372036854775807) (hcv : Ints Hcv vcv c.vars) (hca : Ints Hca vca c.args) (hcr : Rows Hcr vcr c.rows) : SpecP Try.prog 70 [.agg #[.int .i64 c.kind, vcv, vca, .int .i64 c.bound, vcr], .int .i64 n] [Hcv, Hca, Hcr] (.bool (validConB c n)) := by
 refine spec_of Try.func70 rfl rfl rfl (fun B => ?_)
 refine kc_seq (kc_region (kl_box rfl rfl (fun p1 H2 f3 a4 => ?_)))
 refine kl_as rfl (kl_nil (kq_code (kc_seq (kc_region (kl_mv rfl (kl_callP rfl rfl (within_ok n (1 : Int) (4 : Int)) ?_))))))
 refine kl_mv rfl (kl_join 6 13 (.bool ((withinB n (1 : Int) (4 : Int)) && (withinB (c.vars.length : Int) (1 : Int) n))) (pc 1 rfl (pc 2 rfl (pc 4 rfl (pc 7 rfl pn)))) (fun J9 => ?_) ?_)
 ·rcases Bool.eq_false_or_eq_true (withinB n (1 : Int) (4 : Int)) with g5 | g5
  ·skip
   have g5p := g5
   try simp only [Bool.not_eq_true', Bool.not_eq_false', decide_eq_true_eq, decide_eq_false_iff_not, Bool.and_eq_true, Bool.or_eq_false_iff, withinB_iff] at g5p
   refine kl_gT rfl rfl g5 (kl_fd rfl (by assumption) (fun p6 a7 => ?_))
   refine kl_gT rfl rfl g5 (kl_ld rfl (by assumption) (kl_gT rfl rfl g5 (kl_len rfl (by assumption) (fun l8 => ?_))))
   refine kl_gT rfl rfl g5 (kl_mv rfl (kl_gT rfl rfl g5 (kl_callP rfl rfl (within_ok (c.vars.length : Int) (1 : Int) n) ?_)))
   refine kl_andT rfl rfl g5 ?_
   exact J9 _ (pc 13 rfl (pc 1 rfl (pc 2 rfl (pc 4 rfl (pc 7 rfl pn)))))
  ·skip
   refine kl_gF rfl rfl g5 (kl_gF rfl rfl g5 (kl_gF rfl rfl g5 (kl_gF rfl rfl g5 (kl_gF rfl rfl g5 (kl_andF (withinB (c.vars.length : Int) (1 : Int) n) rfl rfl g5 ?_)))))
   exact J9 _ (pc 13 rfl (pc 1 rfl (pc 2 rfl (pc 4 rfl (pc 7 rfl pn)))))
 refine kl_mv rfl (kl_join 6 20 (.bool (((withinB n (1 : Int) (4 : Int)) && (withinB (c.vars.length : Int) (1 : Int) n)) && (allInB c.vars (0 : Int) (n - (1 : Int))))) (pc 2 rfl (pc 4 rfl (pc 14 rfl pn))) (fun J13 => ?_) ?_)
 ·rcases Bool.eq_false_or_eq_true ((withinB n (1 : Int) (4 : Int)) && (withinB (c.vars.length : Int) (1 : Int) n)) with g10 | g10
  ·skip
   have g10p := g10
   try simp only [Bool.not_eq_true', Bool.not_eq_false', decide_eq_true_eq, decide_eq_false_iff_not, Bool.and_eq_true, Bool.or_eq_false_iff, withinB_iff] at g10p
   refine kl_gT rfl rfl g10 (kl_fd rfl (by assumption) (fun p11 a12 => ?_))
   refine kl_gT rfl rfl g10 (kl_ld rfl (by assumption) (kl_gT rfl rfl g10 (kl_mv rfl (kl_gT rfl rfl g10 (kl_sub rfl rfl (by omega) ?_)))))
   refine kl_gT rfl rfl g10 (kl_callP rfl rfl (allIn_ok c.vars (0 : Int) (n - (1 : Int)) (by assumption)) ?_)
   refine kl_andT rfl rfl g10 ?_
   exact J13 _ (pc 20 rfl (pc 2 rfl (pc 4 rfl (pc 14 rfl pn))))
  ·skip
   refine kl_gF rfl rfl g10 (kl_gF rfl rfl g10 (kl_gF rfl rfl g10 (kl_gF rfl rfl g10 (kl_gF rfl rfl g10 (kl_andF (allInB c.vars (0 : Int) (n - (1 : Int))) rfl rfl g10 ?_)))))
   exact J13 _ (pc 20 rfl (pc 2 rfl (pc 4 rfl (pc 14 rfl pn))))
 refine kl_mv rfl (kl_join 4 25 (.bool ((((withinB n (1 : Int) (4 : Int)) && (withinB (c.vars.length : Int) (1 : Int) n)) && (allInB c.vars (0 : Int) (n - (1 : Int)))) && (distinctB c.vars))) (pc 2 rfl (pc 4 rfl (pc 21 rfl pn))) (fun J17 => ?_) ?_)
 ·rcases Bool.eq_false_or_eq_true (((withinB n (1 : Int) (4 : Int)) && (withinB (c.vars.length : Int) (1 : Int) n)) && (allInB c.vars (0 : Int) (n - (1 : Int)))) with g14 | g14
  ·skip
   have g14p := g14
   try simp only [Bool.not_eq_true', Bool.not_eq_false', decide_eq_true_eq, decide_eq_false_iff_not, Bool.and_eq_true, Bool.or_eq_false_iff, withinB_iff] at g14p
   refine kl_gT rfl rfl g14 (kl_fd rfl (by assumption) (fun p15 a16 => ?_))
   refine kl_gT rfl rfl g14 (kl_ld rfl (by assumption) (kl_gT rfl rfl g14 (kl_callP rfl rfl (distinct_ok c.vars (by assumption)) ?_)))
   refine kl_andT rfl rfl g14 ?_
   exact J17 _ (pc 25 rfl (pc 2 rfl (pc 4 rfl (pc 21 rfl pn))))
  ·skip
   refine kl_gF rfl rfl g14 (kl_gF rfl rfl g14 (kl_gF rfl rfl g14 (kl_andF (distinctB c.vars) rfl rfl g14 ?_)))
   exact J17 _ (pc 25 rfl (pc 2 rfl (pc 4 rfl (pc 21 rfl pn))))
 refine kl_mv rfl (kl_join 3 29 (.bool (((((withinB n (1 : Int) (4 : Int)) && (withinB (c.vars.length : Int) (1 : Int) n)) && (allInB c.vars (0 : Int) (n - (1 : Int)))) && (distinctB c.vars)) && (fitsB c))) (pc 4 rfl (pc 26 rfl pn)) (fun J19 => ?_) ?_)
 ·rcases Bool.eq_false_or_eq_true ((((withinB n (1 : Int) (4 : Int)) && (withinB (c.vars.length : Int) (1 : Int) n)) && (allInB c.vars (0 : Int) (n - (1 : Int)))) && (distinctB c.vars)) with g18 | g18
  ·skip
   have g18p := g18
   try simp only [Bool.not_eq_true', Bool.not_eq_false', decide_eq_true_eq, decide_eq_false_iff_not, Bool.and_eq_true, Bool.or_eq_false_iff, withinB_iff] at g18p
   refine kl_gT rfl rfl g18 (kl_ldS rfl (by assumption) rfl ?_)
   refine kl_gT rfl rfl g18 (kl_callP rfl rfl (fits_ok c (by assumption) (by assumption) (by assumption)) ?_)
   refine kl_andT rfl rfl g18 ?_
   exact J19 _ (pc 29 rfl (pc 4 rfl (pc 26 rfl pn)))
  ·skip
   refine kl_gF rfl rfl g18 (kl_gF rfl rfl g18 (kl_andF (fitsB c) rfl rfl g18 ?_))
   exact J19 _ (pc 29 rfl (pc 4 rfl (pc 26 rfl pn)))
 refine kl_as rfl (kl_nil (kq_code (kc_ret (kq_retP rfl rfl (congrArg Value.bool ?_)))))
 rfl
theorem validMod1_ok {Hcv : Hp} {vcv : Value} {Hca : Hp} {vca : Value} {Hcr : Hp} {vcr : Value} {Hmd : Hp} {vmd : Value} {Hmc : Hp} {vmc : Value} {Hm : Hp} {ptrm : Value} (c : Con) (m : Mod) (hcv : Ints Hcv vcv c.vars) (hca : Ints Hca vca c.args) (hcr : Rows Hcr vcr c.rows) (hmd : Ints Hmd vmd m.doms) (hmc : Cons Hmc vmc m.cons) (am : At Hm ptrm [vmd, vmc]) : SpecP Try.prog 69 [.agg #[.int .i64 c.kind, vcv, vca, .int .i64 c.bound, vcr], ptrm] [Hcv, Hca, Hcr, Hmd, Hmc, Hm] (.bool (!validConB c m.doms.length)) := by
 refine spec_of Try.func69 rfl rfl rfl (fun B => ?_)
 refine kc_seq (kc_region (kl_box rfl rfl (fun p1 H2 f3 a4 => ?_)))
 refine kl_as rfl (kl_nil (kq_code (kc_seq (kc_region (kl_ldS rfl (by assumption) rfl ?_)))))
 refine kl_fd rfl (by assumption) (fun p5 a6 => ?_)
 refine kl_ld rfl (by assumption) (kl_len rfl (by assumption) (fun l7 => ?_))
 refine kl_callP rfl rfl (validCon_ok c (m.doms.length : Int) (by first | assumption | omega) (by assumption) (by assumption) (by assumption)) ?_
 refine kl_not rfl (kl_as rfl (kl_nil (kq_code (kc_ret (kq_retP rfl rfl (congrArg Value.bool ?_))))))
 rfl
theorem ixf_con_ok {Hxs : Hp} {vxs : Value} {gp : Nat} {capsp : Array Value} {imp : List Hp} [FnC Try.prog gp] (xs : List Con) (p : Con → Bool) (hxs : Cons Hxs vxs xs) (hp : ∀ (Ha Hb Hr : Hp) (a b r : Value) (c : Con), c ∈ xs → Ints Ha a c.vars → Ints Hb b c.args → Rows Hr r c.rows → SpecP Try.prog gp (.agg #[.int .i64 c.kind, a, b, .int .i64 c.bound, r] :: capsp.toList) (Ha :: Hb :: Hr :: imp) (.bool (p c))) : SpecP Try.prog 95 [vxs, .func (.func gp) #[] capsp] (Hxs :: imp) (.int .i64 (indexBy p xs)) := by
 refine spec_of Try.func95 rfl rfl rfl (fun B => ?_)
 refine kc_seq (kc_region (kl_as rfl (kl_nil (kq_code (kc_seq (kc_seq (kc_region (kl_mv rfl (kl_len rfl (by assumption) (fun l1 => ?_))))))))))
 refine kl_mv rfl (kl_nil (kq_code (kc_block (kc_loop0 (A := Nat) (fun zz => (zz ≤ xs.length) ∧ ((xs.take zz).any p = false)) (fun zz => xs.length - zz) (fun zz => [(8, .int .i64 (zz : Int))]) (0) (pc 0 rfl (pc 1 rfl (pc 7 rfl pn))) (pc 8 rfl pn) ⟨Nat.zero_le _, by simp⟩ ?_))))
 rintro k hJ4
 obtain ⟨hk2, hi3⟩ : (k ≤ xs.length) ∧ ((xs.take k).any p = false) := hJ4
 change KC _ _ (_) _ _ ([(8, .int .i64 (k : Int))] ++ _)
 refine kc_seq (kc_region (kl_lss rfl rfl ?_))
 refine kl_nil (kq_code (kc_seq (kc_if rfl (fun c5 => ?_) (fun c5 => ?_))))
 ·skip
  refine kc_skipQ (kq_code (kc_seq (kc_block (kc_seq (kc_region (kl_mv rfl (kl_as rfl (kl_nil (kq_code (kc_seq (kc_region (kl_mv rfl ?_))))))))))))
  refine kl_mv rfl (kl_mv rfl (kl_inC rfl rfl (by assumption) (by omega) (fun p6 u8 u9 u10 h11 h12 h13 a7 => ?_)))
  refine kl_ldS rfl (by assumption) rfl ?_
  refine kl_callP rfl rfl (hp _ _ _ _ _ _ (xs.getD k nilCon) (getD_mem (by omega)) (by assumption) (by assumption) (by assumption)) ?_
  refine kl_nil (kq_code (kc_cond rfl (fun c14 => ?_) (fun c14 => ?_)))
  ·skip
   have c14r := c14
   try simp only [smpC, decide_eq_true_eq, decide_eq_false_iff_not] at c14
   refine kc_seq (kc_region (kl_mv rfl (kl_as rfl (kl_nil (kq_code (kc_ret (kq_retP rfl rfl (congrArg (Value.int .i64) ?_))))))))
   exact indexBy_hit (d := nilCon) (by omega) (by assumption) (by assumption)
  ·skip
   have c14r := c14
   try simp only [smpC, decide_eq_true_eq, decide_eq_false_iff_not] at c14
   refine kc_skipQ (kq_code (kc_region (kl_inc rfl rfl (by omega) ?_)))
   refine kl_mv rfl (kl_nil (kq_round0 ((k + 1)) (by omega) (⟨by omega, any_take_step (d := nilCon) (by omega) hi3 (by assumption)⟩) (pc 8 rfl pn) (pc 0 rfl (pc 1 rfl (pc 7 rfl pn))) (List.Sublist.refl _)))
 ·skip
  refine kc_exit (kq_code (kc_seq (kc_region (kl_as rfl (kl_nil (kq_code (kc_ret (kq_retP rfl rfl (congrArg (Value.int .i64) ?_)))))))))
  exact indexBy_none (by omega) (by assumption)
theorem cf_con_ok {Hxs : Hp} {vxs : Value} {gp : Nat} {capsp : Array Value} {imp : List Hp} [FnC Try.prog gp] (xs : List Con) (p : Con → Bool) (hxs : Cons Hxs vxs xs) (hp : ∀ (Ha Hb Hr : Hp) (a b r : Value) (c : Con), c ∈ xs → Ints Ha a c.vars → Ints Hb b c.args → Rows Hr r c.rows → SpecP Try.prog gp (.agg #[.int .i64 c.kind, a, b, .int .i64 c.bound, r] :: capsp.toList) (Ha :: Hb :: Hr :: imp) (.bool (p c))) : SpecP Try.prog 68 [vxs, .func (.func gp) #[] capsp] (Hxs :: imp) (.bool (xs.any p)) := by
 refine spec_of Try.func68 rfl rfl rfl (fun B => ?_)
 refine kc_seq (kc_region (kl_as rfl (kl_nil (kq_code (kc_seq (kc_region (kl_mv rfl (kl_mv rfl (kl_callP rfl rfl (ixf_con_ok xs p (by assumption) hp) ?_)))))))))
 refine kl_geq rfl rfl ?_
 refine kl_as rfl (kl_nil (kq_code (kc_ret (kq_retP rfl rfl (congrArg Value.bool ?_)))))
 exact indexBy_any p xs
theorem validMod_ok {Hmd : Hp} {vmd : Value} {Hmc : Hp} {vmc : Value} (m : Mod) (hmd : Ints Hmd vmd m.doms) (hmc : Cons Hmc vmc m.cons) : SpecP Try.prog 37 [.agg #[vmd, vmc]] [Hmd, Hmc] (.bool (validModB m)) := by
 refine spec_of Try.func37 rfl rfl rfl (fun B => ?_)
 refine kc_seq (kc_region (kl_box rfl rfl (fun p1 H2 f3 a4 => ?_)))
 refine kl_as rfl (kl_nil (kq_code (kc_seq (kc_region (kl_fd rfl (by assumption) (fun p5 a6 => ?_))))))
 refine kl_ld rfl (by assumption) (kl_callP rfl rfl (domainsOk_ok m.doms (by assumption)) ?_)
 refine kl_mv rfl (kl_join 5 11 (.bool ((domainsOkB m.doms) && decide ((m.cons.length : Int) ≤ (6 : Int)))) (pc 1 rfl (pc 2 rfl (pc 6 rfl pn))) (fun J11 => ?_) ?_)
 ·rcases Bool.eq_false_or_eq_true (domainsOkB m.doms) with g7 | g7
  ·skip
   have g7p := g7
   try simp only [Bool.not_eq_true', Bool.not_eq_false', decide_eq_true_eq, decide_eq_false_iff_not, Bool.and_eq_true, Bool.or_eq_false_iff, withinB_iff] at g7p
   refine kl_gT rfl rfl g7 (kl_fd rfl (by assumption) (fun p8 a9 => ?_))
   refine kl_gT rfl rfl g7 (kl_ld rfl (by assumption) (kl_gT rfl rfl g7 (kl_len rfl (by assumption) (fun l10 => ?_))))
   refine kl_gT rfl rfl g7 (kl_leq rfl rfl ?_)
   refine kl_andT rfl rfl g7 ?_
   exact J11 _ (pc 11 rfl (pc 1 rfl (pc 2 rfl (pc 6 rfl pn))))
  ·skip
   refine kl_gF rfl rfl g7 (kl_gF rfl rfl g7 (kl_gF rfl rfl g7 (kl_gF rfl rfl g7 (kl_andF (decide ((m.cons.length : Int) ≤ (6 : Int))) rfl rfl g7 ?_))))
   exact J11 _ (pc 11 rfl (pc 1 rfl (pc 2 rfl (pc 6 rfl pn))))
 refine kl_mv rfl (kl_join 6 18 (.bool (((domainsOkB m.doms) && decide ((m.cons.length : Int) ≤ (6 : Int))) && !(m.cons.any (fun x14 => !validConB x14 m.doms.length)))) (pc 2 rfl (pc 12 rfl pn)) (fun J16 => ?_) ?_)
 ·rcases Bool.eq_false_or_eq_true ((domainsOkB m.doms) && decide ((m.cons.length : Int) ≤ (6 : Int))) with g12 | g12
  ·skip
   have g12p := g12
   try simp only [Bool.not_eq_true', Bool.not_eq_false', decide_eq_true_eq, decide_eq_false_iff_not, Bool.and_eq_true, Bool.or_eq_false_iff, withinB_iff] at g12p
   refine kl_gT rfl rfl g12 (kl_fd rfl (by assumption) (fun p13 a14 => ?_))
   refine kl_gT rfl rfl g12 (kl_ld rfl (by assumption) (kl_gT rfl rfl g12 (kl_mkf rfl ?_)))
   refine kl_gT rfl rfl g12 (kl_callP rfl rfl (cf_con_ok m.cons (fun x14 => !validConB x14 m.doms.length) (by assumption) (fun _ _ _ ax14 bx14 rx14 x14 _ hax14 hbx14 hrx14 => validMod1_ok x14 m hax14 hbx14 hrx14 (by assumption) (by assumption) (by assumption))) ?_)
   refine kl_gT rfl rfl g12 (kl_not rfl (kl_andT rfl rfl g12 ?_))
   exact J16 _ (pc 18 rfl (pc 2 rfl (pc 12 rfl pn)))
  ·skip
   refine kl_gF rfl rfl g12 (kl_gF rfl rfl g12 (kl_gF rfl rfl g12 (kl_gF rfl rfl g12 (kl_gF rfl rfl g12 (kl_andF (!(m.cons.any (fun x14 => !validConB x14 m.doms.length))) rfl rfl g12 ?_)))))
   exact J16 _ (pc 18 rfl (pc 2 rfl (pc 12 rfl pn)))
 refine kl_as rfl (kl_nil (kq_code (kc_ret (kq_retP rfl rfl (congrArg Value.bool ?_)))))
 simp only [validModB, List.all_eq_not_any_not, Bool.and_assoc]; try rfl
end Go.Proofs.Ytiilanckbocifaa
