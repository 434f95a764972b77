/- Walks of functions of the program: each returns what the plain function gives. Conditions: those that each statement names. -/
import Derived.Test.YtojinjdobjodaaaGreatTys
import Derived.Test.YtojinjdobjodaaaGreatPure
import Derived.Test.YtojinjdobjodaaaGreatMut
import Derived.Test.YtojinjdobjodaaaGreatPureA
namespace Go.Proofs.YtojinjdobjodaaaGreat
open Go
set_option linter.unusedSimpArgs false
set_option linter.unusedVariables false
theorem within_ok (n : Int) (lo : Int) (hi : Int) : SpecP Tryz.prog 55 [.int .i64 n, .int .i64 lo, .int .i64 hi] [] (.bool (withinB n lo hi)) := by
 refine spec_of Tryz.func55 rfl rfl rfl (fun B => ?_)
 refine kc_seq (kc_region (kl_as rfl (kl_nil (kq_code (kc_seq (kc_region (kl_mv rfl (kl_mv rfl (kl_geq rfl rfl ?_)))))))))
 refine kl_mv rfl (kl_join 4 14 (.bool (decide (lo ≤ n) && decide (n ≤ hi))) (pc 6 rfl (pc 10 rfl pn)) (fun J2 => ?_) ?_)
 ·rcases Bool.eq_false_or_eq_true (decide (lo ≤ n)) with g1 | g1
  ·skip
   have g1p := of_decide_eq_true g1
   refine kl_gT rfl rfl g1 (kl_mv rfl (kl_gT rfl rfl g1 (kl_mv rfl (kl_gT rfl rfl g1 (kl_leq rfl rfl ?_)))))
   refine kl_andT rfl rfl g1 ?_
   exact J2 _ (pc 14 rfl (pc 6 rfl (pc 10 rfl pn)))
  ·skip
   refine kl_gF rfl rfl g1 (kl_gF rfl rfl g1 (kl_gF rfl rfl g1 (kl_andF (decide (n ≤ hi)) rfl rfl g1 ?_)))
   exact J2 _ (pc 14 rfl (pc 6 rfl (pc 10 rfl pn)))
 refine kl_as rfl (kl_nil (kq_code (kc_ret (kq_retP rfl rfl (congrArg Value.bool ?_)))))
 rfl
theorem indexInts_ok {Hxs : Hp} {vxs : Value} (xs : List Int) (x : Int) (hxs : Ints Hxs vxs xs) : SpecP Tryz.prog 192 [vxs, .int .i64 x] [Hxs] (.int .i64 (indexBy (fun y => decide (x = y)) xs)) := by
 refine spec_of Tryz.func192 rfl rfl rfl (fun B => ?_)
 refine kc_seq (kc_region (kl_as rfl (kl_nil (kq_code (kc_seq (kc_seq (kc_region (kl_mv rfl (kl_len rfl (by assumption) (fun l1 => ?_))))))))))
 refine kl_mv rfl (kl_nil (kq_code (kc_block (kc_loop0 (A := Nat) (fun zz => (zz ≤ xs.length) ∧ ((xs.take zz).any (fun y => decide (x = y)) = false)) (fun zz => xs.length - zz) (fun zz => [(8, .int .i64 (zz : Int))]) (0) (pc 0 rfl (pc 1 rfl (pc 7 rfl pn))) (pc 8 rfl pn) ⟨Nat.zero_le _, by simp⟩ ?_))))
 rintro k hJ4
 obtain ⟨hk2, hi3⟩ : (k ≤ xs.length) ∧ ((xs.take k).any (fun y => decide (x = y)) = false) := hJ4
 change KC _ _ (_) _ _ ([(8, .int .i64 (k : Int))] ++ _)
 refine kc_seq (kc_region (kl_lss rfl rfl ?_))
 refine kl_nil (kq_code (kc_seq (kc_if rfl (fun c5 => ?_) (fun c5 => ?_))))
 ·skip
  refine kc_skipQ (kq_code (kc_seq (kc_block (kc_seq (kc_region (kl_mv rfl (kl_as rfl (kl_nil (kq_code (kc_seq (kc_region (kl_mv rfl ?_))))))))))))
  refine kl_mv rfl (kl_mv rfl (kl_inI rfl rfl (by assumption) (by omega) (fun p6 a7 => ?_)))
  refine kl_ld rfl (by assumption) (kl_eql rfl rfl ?_)
  refine kl_nil (kq_code (kc_if rfl (fun c8 => ?_) (fun c8 => ?_)))
  ·skip
   refine kc_seq (kc_region (kl_mv rfl (kl_as rfl (kl_nil (kq_code (kc_ret (kq_retP rfl rfl (congrArg (Value.int .i64) ?_))))))))
   exact indexBy_hit (d := 0) (by omega) (by assumption) (by simpa using by assumption)
  ·skip
   refine kc_skipQ (kq_code (kc_region (kl_inc rfl rfl (by omega) ?_)))
   refine kl_mv rfl (kl_nil (kq_round0 ((k + 1)) (by omega) (⟨by omega, any_take_step (d := 0) (by omega) hi3 (by simpa using by assumption)⟩) (pc 8 rfl pn) (pc 0 rfl (pc 1 rfl (pc 7 rfl pn))) (List.Sublist.refl _)))
 ·skip
  refine kc_exit (kq_code (kc_seq (kc_region (kl_as rfl (kl_nil (kq_code (kc_ret (kq_retP rfl rfl (congrArg (Value.int .i64) ?_)))))))))
  exact indexBy_none (by omega) (by assumption)
theorem containsInts_ok {Hxs : Hp} {vxs : Value} (xs : List Int) (x : Int) (hxs : Ints Hxs vxs xs) : SpecP Tryz.prog 176 [vxs, .int .i64 x] [Hxs] (.bool (xs.contains x)) := by
 refine spec_of Tryz.func176 rfl rfl rfl (fun B => ?_)
 refine kc_seq (kc_region (kl_as rfl (kl_nil (kq_code (kc_seq (kc_region (kl_mv rfl (kl_mv rfl (kl_callP rfl rfl (indexInts_ok xs x (by assumption)) ?_)))))))))
 refine kl_geq rfl rfl ?_
 refine kl_as rfl (kl_nil (kq_code (kc_ret (kq_retP rfl rfl (congrArg Value.bool ?_)))))
 rw [indexBy_any]; rw [List.contains_eq_any_beq]; rfl
theorem distinct_ok {Hxs : Hp} {vxs : Value} (xs : List Int) (hxs : Ints Hxs vxs xs) : SpecP Tryz.prog 137 [vxs] [Hxs] (.bool (distinctB xs)) := by
 refine spec_of Tryz.func137 rfl rfl rfl (fun B => ?_)
 refine kc_seq (kc_region (kl_as rfl (kl_nil (kq_code (kc_seq (kc_seq (kc_region (kl_mv rfl (kl_len rfl (by assumption) (fun l1 => ?_))))))))))
 refine kl_mv rfl (kl_nil (kq_code (kc_block (kc_loop0 (A := Nat) (fun zz => (zz ≤ xs.length) ∧ ((xs.take zz).Nodup)) (fun zz => xs.length - zz) (fun zz => [(7, .int .i64 (zz : Int))]) (0) (pc 0 rfl (pc 5 rfl (pc 6 rfl pn))) (pc 7 rfl pn) ⟨Nat.zero_le _, by simp⟩ ?_))))
 rintro k hJ4
 obtain ⟨hk2, hi3⟩ : (k ≤ xs.length) ∧ ((xs.take k).Nodup) := hJ4
 change KC _ _ (_) _ _ ([(7, .int .i64 (k : Int))] ++ _)
 refine kc_seq (kc_region (kl_lss rfl rfl ?_))
 refine kl_nil (kq_code (kc_seq (kc_if rfl (fun c5 => ?_) (fun c5 => ?_))))
 ·skip
  refine kc_skipQ (kq_code (kc_seq (kc_block (kc_seq (kc_region (kl_mv rfl (kl_inI rfl rfl (by assumption) (by omega) (fun p6 a7 => ?_))))))))
  refine kl_ld rfl (by assumption) (kl_as rfl (kl_as rfl (kl_nil (kq_code (kc_seq (kc_region (kl_mv rfl (kl_mv rfl (kl_slTake rfl rfl (by assumption) (by omega) (fun u8 h9 => ?_))))))))))
  refine kl_mv rfl (kl_callP rfl rfl (containsInts_ok (xs.take k) (xs.getD k 0) (by assumption)) ?_)
  refine kl_nil (kq_code (kc_cond rfl (fun c10 => ?_) (fun c10 => ?_)))
  ·skip
   have c10r := c10
   try simp only [smpC, decide_eq_true_eq, decide_eq_false_iff_not] at c10
   refine kc_seq (kc_region (kl_as rfl (kl_nil (kq_code (kc_ret (kq_retP rfl rfl (congrArg Value.bool ?_)))))))
   simp only [distinctB]; exact (decide_eq_false (nodup_not (k := k) (by omega) (by simp at *; assumption))).symm
  ·skip
   have c10r := c10
   try simp only [smpC, decide_eq_true_eq, decide_eq_false_iff_not] at c10
   refine kc_skipQ (kq_code (kc_region (kl_inc rfl rfl (by omega) ?_)))
   refine kl_mv rfl (kl_nil (kq_round0 ((k + 1)) (by omega) (⟨by omega, (nodup_take_succ (by omega)).2 ⟨hi3, by simp at *; assumption⟩⟩) (pc 7 rfl pn) (pc 0 rfl (pc 5 rfl (pc 6 rfl pn))) (List.Sublist.refl _)))
 ·skip
  refine kc_exit (kq_code (kc_seq (kc_region (kl_as rfl (kl_nil (kq_code (kc_ret (kq_retP rfl rfl (congrArg Value.bool ?_)))))))))
  simp only [distinctB]; rw [List.take_of_length_le (by omega)] at hi3; exact (decide_eq_true hi3).symm
theorem ixf_int_ok {Hxs : Hp} {vxs : Value} {gp : Nat} {capsp : Array Value} {imp : List Hp} [FnC Tryz.prog gp] (xs : List Int) (p : Int → Bool) (hxs : Ints Hxs vxs xs) (hp : ∀ n : Int, n ∈ xs → SpecP Tryz.prog gp (.int .i64 n :: capsp.toList) imp (.bool (p n))) : SpecP Tryz.prog 132 [vxs, .func (.func gp) #[] capsp] (Hxs :: imp) (.int .i64 (indexBy p xs)) := by
 refine spec_of Tryz.func132 rfl rfl rfl (fun B => ?_)
 refine kc_seq (kc_region (kl_as rfl (kl_nil (kq_code (kc_seq (kc_seq (kc_region (kl_mv rfl (kl_len rfl (by assumption) (fun l1 => ?_))))))))))
 refine kl_mv rfl (kl_nil (kq_code (kc_block (kc_loop0 (A := Nat) (fun zz => (zz ≤ xs.length) ∧ ((xs.take zz).any p = false)) (fun zz => xs.length - zz) (fun zz => [(8, .int .i64 (zz : Int))]) (0) (pc 0 rfl (pc 1 rfl (pc 7 rfl pn))) (pc 8 rfl pn) ⟨Nat.zero_le _, by simp⟩ ?_))))
 rintro k hJ4
 obtain ⟨hk2, hi3⟩ : (k ≤ xs.length) ∧ ((xs.take k).any p = false) := hJ4
 change KC _ _ (_) _ _ ([(8, .int .i64 (k : Int))] ++ _)
 refine kc_seq (kc_region (kl_lss rfl rfl ?_))
 refine kl_nil (kq_code (kc_seq (kc_if rfl (fun c5 => ?_) (fun c5 => ?_))))
 ·skip
  refine kc_skipQ (kq_code (kc_seq (kc_block (kc_seq (kc_region (kl_mv rfl (kl_as rfl (kl_nil (kq_code (kc_seq (kc_region (kl_mv rfl ?_))))))))))))
  refine kl_mv rfl (kl_mv rfl (kl_inI rfl rfl (by assumption) (by omega) (fun p6 a7 => ?_)))
  refine kl_ld rfl (by assumption) (kl_callP rfl rfl (hp (xs.getD k 0) (getD_mem (by omega))) ?_)
  refine kl_nil (kq_code (kc_cond rfl (fun c8 => ?_) (fun c8 => ?_)))
  ·skip
   have c8r := c8
   try simp only [smpC, decide_eq_true_eq, decide_eq_false_iff_not] at c8
   refine kc_seq (kc_region (kl_mv rfl (kl_as rfl (kl_nil (kq_code (kc_ret (kq_retP rfl rfl (congrArg (Value.int .i64) ?_))))))))
   exact indexBy_hit (d := 0) (by omega) (by assumption) (by assumption)
  ·skip
   have c8r := c8
   try simp only [smpC, decide_eq_true_eq, decide_eq_false_iff_not] at c8
   refine kc_skipQ (kq_code (kc_region (kl_inc rfl rfl (by omega) ?_)))
   refine kl_mv rfl (kl_nil (kq_round0 ((k + 1)) (by omega) (⟨by omega, any_take_step (d := 0) (by omega) hi3 (by assumption)⟩) (pc 8 rfl pn) (pc 0 rfl (pc 1 rfl (pc 7 rfl pn))) (List.Sublist.refl _)))
 ·skip
  refine kc_exit (kq_code (kc_seq (kc_region (kl_as rfl (kl_nil (kq_code (kc_ret (kq_retP rfl rfl (congrArg (Value.int .i64) ?_)))))))))
  exact indexBy_none (by omega) (by assumption)
theorem cf_int_ok {Hxs : Hp} {vxs : Value} {gp : Nat} {capsp : Array Value} {imp : List Hp} [FnC Tryz.prog gp] (xs : List Int) (p : Int → Bool) (hxs : Ints Hxs vxs xs) (hp : ∀ n : Int, n ∈ xs → SpecP Tryz.prog gp (.int .i64 n :: capsp.toList) imp (.bool (p n))) : SpecP Tryz.prog 86 [vxs, .func (.func gp) #[] capsp] (Hxs :: imp) (.bool (xs.any p)) := by
 refine spec_of Tryz.func86 rfl rfl rfl (fun B => ?_)
 refine kc_seq (kc_region (kl_as rfl (kl_nil (kq_code (kc_seq (kc_region (kl_mv rfl (kl_mv rfl (kl_callP rfl rfl (ixf_int_ok xs p (by assumption) hp) ?_)))))))))
 refine kl_geq rfl rfl ?_
 refine kl_as rfl (kl_nil (kq_code (kc_ret (kq_retP rfl rfl (congrArg Value.bool ?_)))))
 exact indexBy_any p xs
theorem allIn1_ok {Hlo : Hp} {ptrlo : Value} {Hhi : Hp} {ptrhi : Value} (n : Int) (lo : Int) (hi : Int) (alo : At Hlo ptrlo [.int .i64 lo]) (ahi : At Hhi ptrhi [.int .i64 hi]) : SpecP Tryz.prog 87 [.int .i64 n, ptrlo, ptrhi] [Hlo, Hhi] (.bool (!withinB n lo hi)) := by
 refine spec_of Tryz.func87 rfl rfl rfl (fun B => ?_)
 refine kc_seq (kc_region (kl_as rfl (kl_nil (kq_code (kc_seq (kc_region (kl_mv rfl (kl_ld rfl (by assumption) (kl_ld rfl (by assumption) (kl_callP rfl rfl (within_ok n lo hi) ?_))))))))))
 refine kl_not rfl (kl_as rfl (kl_nil (kq_code (kc_ret (kq_retP rfl rfl (congrArg Value.bool ?_))))))
 rfl
theorem allIn_ok {Hxs : Hp} {vxs : Value} (xs : List Int) (lo : Int) (hi : Int) (hxs : Ints Hxs vxs xs) : SpecP Tryz.prog 49 [vxs, .int .i64 lo, .int .i64 hi] [Hxs] (.bool (allInB xs lo hi)) := by
 refine spec_of Tryz.func49 rfl rfl rfl (fun B => ?_)
 refine kc_seq (kc_region (kl_box rfl rfl (fun p1 H2 f3 a4 => ?_)))
 refine kl_box rfl rfl (fun p5 H6 f7 a8 => ?_)
 refine kl_as rfl (kl_nil (kq_code (kc_seq (kc_region (kl_mv rfl (kl_mkf rfl ?_))))))
 refine kl_callP rfl rfl (cf_int_ok xs (fun x8 => !withinB x8 lo hi) (by assumption) (fun x8 _ => allIn1_ok x8 lo hi (by assumption) (by assumption))) ?_
 refine kl_not rfl (kl_as rfl (kl_nil (kq_code (kc_ret (kq_retP rfl rfl (congrArg Value.bool ?_))))))
 simp [allInB, List.all_eq_not_any_not]
theorem domainsOk_ok {Hds : Hp} {vds : Value} (ds : List Int) (hds : Ints Hds vds ds) : SpecP Tryz.prog 92 [vds] [Hds] (.bool (domainsOkB ds)) := by
 refine spec_of Tryz.func92 rfl rfl rfl (fun B => ?_)
 refine kc_seq (kc_region (kl_as rfl (kl_nil (kq_code (kc_seq (kc_region (kl_mv rfl (kl_len rfl (by assumption) (fun l1 => ?_)))))))))
 refine kl_callP rfl rfl (within_ok (ds.length : Int) (1 : Int) (4 : Int)) ?_
 refine kl_mv rfl (kl_join 3 9 (.bool ((withinB (ds.length : Int) (1 : Int) (4 : Int)) && (allInB ds (0 : Int) (63 : Int)))) (pc 2 rfl (pc 6 rfl pn)) (fun J3 => ?_) ?_)
 ·rcases Bool.eq_false_or_eq_true (withinB (ds.length : Int) (1 : Int) (4 : Int)) with g2 | g2
  ·skip
   have g2p := g2
   try simp only [Bool.not_eq_true', Bool.not_eq_false', decide_eq_true_eq, decide_eq_false_iff_not, Bool.and_eq_true, Bool.or_eq_false_iff, withinB_iff] at g2p
   refine kl_gT rfl rfl g2 (kl_mv rfl (kl_gT rfl rfl g2 (kl_callP rfl rfl (allIn_ok ds (0 : Int) (63 : Int) (by assumption)) ?_)))
   refine kl_andT rfl rfl g2 ?_
   exact J3 _ (pc 9 rfl (pc 2 rfl (pc 6 rfl pn)))
  ·skip
   refine kl_gF rfl rfl g2 (kl_gF rfl rfl g2 (kl_andF (allInB ds (0 : Int) (63 : Int)) rfl rfl g2 ?_))
   exact J3 _ (pc 9 rfl (pc 2 rfl (pc 6 rfl pn)))
 refine kl_as rfl (kl_nil (kq_code (kc_ret (kq_retP rfl rfl (congrArg Value.bool ?_)))))
 rfl
theorem ixf_row_ok {Hxs : Hp} {vxs : Value} {gp : Nat} {capsp : Array Value} {imp : List Hp} [FnC Tryz.prog gp] (xs : List (List Int)) (p : List Int → Bool) (hxs : Rows Hxs vxs xs) (hp : ∀ (H : Hp) (u : Value) (r : List Int), r ∈ xs → Ints H u r → SpecP Tryz.prog gp (u :: capsp.toList) (H :: imp) (.bool (p r))) : SpecP Tryz.prog 203 [vxs, .func (.func gp) #[] capsp] (Hxs :: imp) (.int .i64 (indexBy p xs)) := by
 refine spec_of Tryz.func203 rfl rfl rfl (fun B => ?_)
 refine kc_seq (kc_region (kl_as rfl (kl_nil (kq_code (kc_seq (kc_seq (kc_region (kl_mv rfl (kl_len rfl (by assumption) (fun l1 => ?_))))))))))
 refine kl_mv rfl (kl_nil (kq_code (kc_block (kc_loop0 (A := Nat) (fun zz => (zz ≤ xs.length) ∧ ((xs.take zz).any p = false)) (fun zz => xs.length - zz) (fun zz => [(8, .int .i64 (zz : Int))]) (0) (pc 0 rfl (pc 1 rfl (pc 7 rfl pn))) (pc 8 rfl pn) ⟨Nat.zero_le _, by simp⟩ ?_))))
 rintro k hJ4
 obtain ⟨hk2, hi3⟩ : (k ≤ xs.length) ∧ ((xs.take k).any p = false) := hJ4
 change KC _ _ (_) _ _ ([(8, .int .i64 (k : Int))] ++ _)
 refine kc_seq (kc_region (kl_lss rfl rfl ?_))
 refine kl_nil (kq_code (kc_seq (kc_if rfl (fun c5 => ?_) (fun c5 => ?_))))
 ·skip
  refine kc_skipQ (kq_code (kc_seq (kc_block (kc_seq (kc_region (kl_mv rfl (kl_as rfl (kl_nil (kq_code (kc_seq (kc_region (kl_mv rfl ?_))))))))))))
  refine kl_mv rfl (kl_mv rfl (kl_inS rfl rfl (by assumption) (by omega) (fun p6 u8 h9 a7 => ?_)))
  refine kl_ld rfl (by assumption) (kl_callP rfl rfl (hp _ _ (xs.getD k []) (getD_mem (by omega)) (by assumption)) ?_)
  refine kl_nil (kq_code (kc_cond rfl (fun c10 => ?_) (fun c10 => ?_)))
  ·skip
   have c10r := c10
   try simp only [smpC, decide_eq_true_eq, decide_eq_false_iff_not] at c10
   refine kc_seq (kc_region (kl_mv rfl (kl_as rfl (kl_nil (kq_code (kc_ret (kq_retP rfl rfl (congrArg (Value.int .i64) ?_))))))))
   exact indexBy_hit (d := []) (by omega) (by assumption) (by assumption)
  ·skip
   have c10r := c10
   try simp only [smpC, decide_eq_true_eq, decide_eq_false_iff_not] at c10
   refine kc_skipQ (kq_code (kc_region (kl_inc rfl rfl (by omega) ?_)))
   refine kl_mv rfl (kl_nil (kq_round0 ((k + 1)) (by omega) (⟨by omega, any_take_step (d := []) (by omega) hi3 (by assumption)⟩) (pc 8 rfl pn) (pc 0 rfl (pc 1 rfl (pc 7 rfl pn))) (List.Sublist.refl _)))
 ·skip
  refine kc_exit (kq_code (kc_seq (kc_region (kl_as rfl (kl_nil (kq_code (kc_ret (kq_retP rfl rfl (congrArg (Value.int .i64) ?_)))))))))
  exact indexBy_none (by omega) (by assumption)
theorem cf_row_ok {Hxs : Hp} {vxs : Value} {gp : Nat} {capsp : Array Value} {imp : List Hp} [FnC Tryz.prog gp] (xs : List (List Int)) (p : List Int → Bool) (hxs : Rows Hxs vxs xs) (hp : ∀ (H : Hp) (u : Value) (r : List Int), r ∈ xs → Ints H u r → SpecP Tryz.prog gp (u :: capsp.toList) (H :: imp) (.bool (p r))) : SpecP Tryz.prog 193 [vxs, .func (.func gp) #[] capsp] (Hxs :: imp) (.bool (xs.any p)) := by
 refine spec_of Tryz.func193 rfl rfl rfl (fun B => ?_)
 refine kc_seq (kc_region (kl_as rfl (kl_nil (kq_code (kc_seq (kc_region (kl_mv rfl (kl_mv rfl (kl_callP rfl rfl (ixf_row_ok xs p (by assumption) hp) ?_)))))))))
 refine kl_geq rfl rfl ?_
 refine kl_as rfl (kl_nil (kq_code (kc_ret (kq_retP rfl rfl (congrArg Value.bool ?_)))))
 exact indexBy_any p xs
theorem rowsIn1_ok {Hrow : Hp} {vrow : Value} {Hmany : Hp} {ptrmany : Value} {Hlo : Hp} {ptrlo : Value} {Hhi : Hp} {ptrhi : Value} (row : List Int) (many : Int) (lo : Int) (hi : Int) (hrow : Ints Hrow vrow row) (amany : At Hmany ptrmany [.int .i64 many]) (alo : At Hlo ptrlo [.int .i64 lo]) (ahi : At Hhi ptrhi [.int .i64 hi]) : SpecP Tryz.prog 194 [vrow, ptrmany, ptrlo, ptrhi] [Hrow, Hmany, Hlo, Hhi] (.bool (!(decide ((row.length : Int) = many) && allInB row lo hi))) := by
 refine spec_of Tryz.func194 rfl rfl rfl (fun B => ?_)
 refine kc_seq (kc_region (kl_as rfl (kl_nil (kq_code (kc_seq (kc_region (kl_mv rfl (kl_len rfl (by assumption) (fun l1 => ?_)))))))))
 refine kl_ld rfl (by assumption) (kl_neq rfl rfl ?_)
 refine kl_mv rfl (kl_join 6 16 (.bool (decide ((row.length : Int) ≠ many) || !(allInB row lo hi))) (pc 5 rfl (pc 10 rfl pn)) (fun J3 => ?_) ?_)
 ·rcases Bool.eq_false_or_eq_true (decide ((row.length : Int) ≠ many)) with g2 | g2
  ·skip
   refine kl_gF rfl rfl g2 (kl_gF rfl rfl g2 (kl_gF rfl rfl g2 (kl_gF rfl rfl g2 (kl_gF rfl rfl g2 (kl_orT (!(allInB row lo hi)) rfl rfl g2 ?_)))))
   exact J3 _ (pc 16 rfl (pc 5 rfl (pc 10 rfl pn)))
  ·skip
   have g2p := of_decide_eq_false g2
   refine kl_gT rfl rfl g2 (kl_mv rfl (kl_gT rfl rfl g2 (kl_ld rfl (by assumption) (kl_gT rfl rfl g2 (kl_ld rfl (by assumption) (kl_gT rfl rfl g2 (kl_callP rfl rfl (allIn_ok row lo hi (by assumption)) ?_)))))))
   refine kl_gT rfl rfl g2 (kl_not rfl (kl_orF rfl rfl g2 ?_))
   exact J3 _ (pc 16 rfl (pc 5 rfl (pc 10 rfl pn)))
 refine kl_as rfl (kl_nil (kq_code (kc_ret (kq_retP rfl rfl (congrArg Value.bool ?_)))))
 simp only [Bool.not_and, decide_not]
theorem rowsIn_ok {Hrows : Hp} {vrows : Value} (rows : List (List Int)) (many : Int) (lo : Int) (hi : Int) (hrows : Rows Hrows vrows rows) : SpecP Tryz.prog 178 [vrows, .int .i64 many, .int .i64 lo, .int .i64 hi] [Hrows] (.bool (withinB rows.length 1 8 && rows.all fun r => decide ((r.length : Int) = many) && allInB r lo hi)) := by
 refine spec_of Tryz.func178 rfl rfl rfl (fun B => ?_)
 refine kc_seq (kc_region (kl_box rfl rfl (fun p1 H2 f3 a4 => ?_)))
 refine kl_box rfl rfl (fun p5 H6 f7 a8 => ?_)
 refine kl_box rfl rfl (fun p9 H10 f11 a12 => ?_)
 refine kl_as rfl (kl_nil (kq_code (kc_seq (kc_region (kl_mv rfl (kl_len rfl (by assumption) (fun l13 => ?_)))))))
 refine kl_callP rfl rfl (within_ok (rows.length : Int) (1 : Int) (8 : Int)) ?_
 refine kl_mv rfl (kl_join 5 17 (.bool ((withinB (rows.length : Int) (1 : Int) (8 : Int)) && !(rows.any (fun x14 => !(decide ((x14.length : Int) = many) && allInB x14 lo hi))))) (pc 8 rfl (pc 12 rfl pn)) (fun J16 => ?_) ?_)
 ·rcases Bool.eq_false_or_eq_true (withinB (rows.length : Int) (1 : Int) (8 : Int)) with g14 | g14
  ·skip
   have g14p := g14
   try simp only [Bool.not_eq_true', Bool.not_eq_false', decide_eq_true_eq, decide_eq_false_iff_not, Bool.and_eq_true, Bool.or_eq_false_iff, withinB_iff] at g14p
   refine kl_gT rfl rfl g14 (kl_mv rfl (kl_gT rfl rfl g14 (kl_mkf rfl ?_)))
   refine kl_gT rfl rfl g14 (kl_callP rfl rfl (cf_row_ok rows (fun x14 => !(decide ((x14.length : Int) = many) && allInB x14 lo hi)) (by assumption) (fun _ ux14 x14 _ hux14 => rowsIn1_ok x14 many lo hi hux14 (by assumption) (by assumption) (by assumption))) ?_)
   refine kl_gT rfl rfl g14 (kl_not rfl (kl_andT rfl rfl g14 ?_))
   exact J16 _ (pc 17 rfl (pc 8 rfl (pc 12 rfl pn)))
  ·skip
   refine kl_gF rfl rfl g14 (kl_gF rfl rfl g14 (kl_gF rfl rfl g14 (kl_gF rfl rfl g14 (kl_andF (!(rows.any (fun x14 => !(decide ((x14.length : Int) = many) && allInB x14 lo hi)))) rfl rfl g14 ?_))))
   exact J16 _ (pc 17 rfl (pc 8 rfl (pc 12 rfl pn)))
 refine kl_as rfl (kl_nil (kq_code (kc_ret (kq_retP rfl rfl (congrArg Value.bool ?_)))))
 simp only [List.all_eq_not_any_not]
theorem fits1_ok {Hcv : Hp} {vcv : Value} {Hca : Hp} {vca : Value} {Hcr : Hp} {vcr : Value} {Hc : Hp} {ptrc : Value} (many : Int) (lo : Int) (hi : Int) (c : Con) (hcv : Ints Hcv vcv c.vars) (hca : Ints Hca vca c.args) (hcr : Rows Hcr vcr c.rows) (ac : At Hc ptrc [.int .i64 c.kind, vcv, vca, .int .i64 c.bound, vcr]) : SpecP Tryz.prog 177 [.int .i64 many, .int .i64 lo, .int .i64 hi, ptrc] [Hcv, Hca, Hcr, Hc] (.bool (decide ((c.args.length : Int) = many) && allInB c.args lo hi)) := by
 refine spec_of Tryz.func177 rfl rfl rfl (fun B => ?_)
 refine kc_seq (kc_region (kl_as rfl (kl_nil (kq_code (kc_seq (kc_region (kl_fd rfl (by assumption) (fun p1 a2 => ?_))))))))
 refine kl_ld rfl (by assumption) (kl_len rfl (by assumption) (fun l3 => ?_))
 refine kl_mv rfl (kl_eql rfl rfl ?_)
 refine kl_mv rfl (kl_join 6 19 (.bool (decide ((c.args.length : Int) = many) && (allInB c.args lo hi))) (pc 7 rfl (pc 13 rfl pn)) (fun J7 => ?_) ?_)
 ·rcases Bool.eq_false_or_eq_true (decide ((c.args.length : Int) = many)) with g4 | g4
  ·skip
   have g4p := of_decide_eq_true g4
   refine kl_gT rfl rfl g4 (kl_fd rfl (by assumption) (fun p5 a6 => ?_))
   refine kl_gT rfl rfl g4 (kl_ld rfl (by assumption) (kl_gT rfl rfl g4 (kl_mv rfl (kl_gT rfl rfl g4 (kl_mv rfl (kl_gT rfl rfl g4 (kl_callP rfl rfl (allIn_ok c.args lo hi (by assumption)) ?_)))))))
   refine kl_andT rfl rfl g4 ?_
   exact J7 _ (pc 19 rfl (pc 7 rfl (pc 13 rfl pn)))
  ·skip
   refine kl_gF rfl rfl g4 (kl_gF rfl rfl g4 (kl_gF rfl rfl g4 (kl_gF rfl rfl g4 (kl_gF rfl rfl g4 (kl_andF (allInB c.args lo hi) rfl rfl g4 ?_)))))
   exact J7 _ (pc 19 rfl (pc 7 rfl (pc 13 rfl pn)))
 refine kl_as rfl (kl_nil (kq_code (kc_ret (kq_retP rfl rfl (congrArg Value.bool ?_)))))
 rfl
theorem fits_ok {Hcv : Hp} {vcv : Value} {Hca : Hp} {vca : Value} {Hcr : Hp} {vcr : Value} (c : Con) (hcv : Ints Hcv vcv c.vars) (hca : Ints Hca vca c.args) (hcr : Rows Hcr vcr c.rows) : SpecP Tryz.prog 138 [.agg #[.int .i64 c.kind, vcv, vca, .int .i64 c.bound, vcr]] [Hcv, Hca, Hcr] (.bool (fitsB c)) := by
 refine spec_of Tryz.func138 rfl rfl rfl (fun B => ?_)
 refine kc_seq (kc_region (kl_box rfl rfl (fun p1 H2 f3 a4 => ?_)))
 refine kl_as rfl (kl_nil (kq_code (kc_seq (kc_region (kl_fd rfl (by assumption) (fun p5 a6 => ?_))))))
 refine kl_ld rfl (by assumption) (kl_len rfl (by assumption) (fun l7 => ?_))
 refine kl_as rfl (kl_nil (kq_code (kc_seq (kc_region (kl_mkf rfl ?_)))))
 refine kl_as rfl (kl_nil (kq_code (kc_seq (kc_draw 9 [true, true, true, true, true, true, true, true, true] (by kernel_rfl) (by kernel_rfl) ?_))))
 refine kl_fd rfl (by assumption) (fun p8 a9 => ?_)
 refine kl_ld rfl (by assumption) (kl_len rfl (by assumption) (fun l10 => ?_))
 refine kl_eql rfl rfl ?_
 refine kl_fd rfl (by assumption) (fun p11 a12 => ?_)
 refine kl_ld rfl (by assumption) (kl_eql rfl rfl ?_)
 refine kl_as rfl (kl_as rfl (kl_nil (kq_code (kc_seq (kc_seq (kc_region (kl_fd rfl (by assumption) (fun p13 a14 => ?_))))))))
 refine kl_ld rfl (by assumption) (kl_nil (kq_code (kc_block (kc_seq (kc_region (kl_eql rfl rfl ?_))))))
 refine kl_as rfl (kl_nil (kq_code (kc_if rfl (fun c15 => ?_) (fun c15 => ?_))))
 ·skip
  refine kc_seq (kc_region (kl_mv rfl (kl_mv rfl (kl_callP rfl rfl (fits1_ok (c.vars.length : Int) (-9 : Int) (9 : Int) c (by assumption) (by assumption) (by assumption) (by assumption)) ?_))))
  refine kl_mv rfl (kl_join 4 30 (.bool ((decide ((c.args.length : Int) = (c.vars.length : Int)) && allInB c.args (-9 : Int) (9 : Int)) && (withinB c.bound (-999 : Int) (999 : Int)))) (pc 2 rfl (pc 5 rfl (pc 26 rfl pn))) (fun J19 => ?_) ?_)
  ·rcases Bool.eq_false_or_eq_true (decide ((c.args.length : Int) = (c.vars.length : Int)) && allInB c.args (-9 : Int) (9 : Int)) with g16 | g16
   ·skip
    have g16p := g16
    try simp only [Bool.not_eq_true', Bool.not_eq_false', decide_eq_true_eq, decide_eq_false_iff_not, Bool.and_eq_true, Bool.or_eq_false_iff, withinB_iff] at g16p
    refine kl_gT rfl rfl g16 (kl_fd rfl (by assumption) (fun p17 a18 => ?_))
    refine kl_gT rfl rfl g16 (kl_ld rfl (by assumption) (kl_gT rfl rfl g16 (kl_callP rfl rfl (within_ok c.bound (-999 : Int) (999 : Int)) ?_)))
    refine kl_andT rfl rfl g16 ?_
    exact J19 _ (pc 30 rfl (pc 2 rfl (pc 5 rfl (pc 26 rfl pn))))
   ·skip
    refine kl_gF rfl rfl g16 (kl_gF rfl rfl g16 (kl_gF rfl rfl g16 (kl_andF (withinB c.bound (-999 : Int) (999 : Int)) rfl rfl g16 ?_)))
    exact J19 _ (pc 30 rfl (pc 2 rfl (pc 5 rfl (pc 26 rfl pn))))
  refine kl_mv rfl (kl_join 2 33 (.bool (((decide ((c.args.length : Int) = (c.vars.length : Int)) && allInB c.args (-9 : Int) (9 : Int)) && (withinB c.bound (-999 : Int) (999 : Int))) && decide ((c.rows.length : Int) = (0 : Int)))) (pc 2 rfl (pc 31 rfl pn)) (fun J21 => ?_) ?_)
  ·rcases Bool.eq_false_or_eq_true ((decide ((c.args.length : Int) = (c.vars.length : Int)) && allInB c.args (-9 : Int) (9 : Int)) && (withinB c.bound (-999 : Int) (999 : Int))) with g20 | g20
   ·skip
    have g20p := g20
    try simp only [Bool.not_eq_true', Bool.not_eq_false', decide_eq_true_eq, decide_eq_false_iff_not, Bool.and_eq_true, Bool.or_eq_false_iff, withinB_iff] at g20p
    refine kl_gT rfl rfl g20 (kl_mv rfl (kl_andT rfl rfl g20 ?_))
    exact J21 _ (pc 33 rfl (pc 2 rfl (pc 31 rfl pn)))
   ·skip
    refine kl_gF rfl rfl g20 (kl_andF (decide ((c.rows.length : Int) = (0 : Int))) rfl rfl g20 ?_)
    exact J21 _ (pc 33 rfl (pc 2 rfl (pc 31 rfl pn)))
  refine kl_as rfl (kl_nil (kq_code (kc_ret (kq_retP rfl rfl (congrArg Value.bool ?_)))))
  first | (exfalso; omega) | (simp [fitsB, rowsInB, *])
 ·skip
  refine kc_seq (kc_region (kl_eql rfl rfl ?_))
  refine kl_as rfl (kl_nil (kq_code (kc_if rfl (fun c22 => ?_) (fun c22 => ?_))))
  ·skip
   refine kc_seq (kc_region (kl_mv rfl (kl_eql rfl rfl ?_)))
   refine kl_mv rfl (kl_join 3 41 (.bool (decide ((c.vars.length : Int) = (2 : Int)) && (decide ((c.args.length : Int) = (1 : Int)) && allInB c.args (-9 : Int) (9 : Int)))) (pc 2 rfl (pc 5 rfl (pc 6 rfl (pc 38 rfl pn)))) (fun J24 => ?_) ?_)
   ·rcases Bool.eq_false_or_eq_true (decide ((c.vars.length : Int) = (2 : Int))) with g23 | g23
    ·skip
     have g23p := of_decide_eq_true g23
     refine kl_gT rfl rfl g23 (kl_mv rfl (kl_gT rfl rfl g23 (kl_callP rfl rfl (fits1_ok (1 : Int) (-9 : Int) (9 : Int) c (by assumption) (by assumption) (by assumption) (by assumption)) ?_)))
     refine kl_andT rfl rfl g23 ?_
     exact J24 _ (pc 41 rfl (pc 2 rfl (pc 5 rfl (pc 6 rfl (pc 38 rfl pn)))))
    ·skip
     refine kl_gF rfl rfl g23 (kl_gF rfl rfl g23 (kl_andF (decide ((c.args.length : Int) = (1 : Int)) && allInB c.args (-9 : Int) (9 : Int)) rfl rfl g23 ?_))
     exact J24 _ (pc 41 rfl (pc 2 rfl (pc 5 rfl (pc 6 rfl (pc 38 rfl pn)))))
   refine kl_mv rfl (kl_join 2 44 (.bool ((decide ((c.vars.length : Int) = (2 : Int)) && (decide ((c.args.length : Int) = (1 : Int)) && allInB c.args (-9 : Int) (9 : Int))) && decide (c.bound = (0 : Int)))) (pc 2 rfl (pc 5 rfl (pc 42 rfl pn))) (fun J26 => ?_) ?_)
   ·rcases Bool.eq_false_or_eq_true (decide ((c.vars.length : Int) = (2 : Int)) && (decide ((c.args.length : Int) = (1 : Int)) && allInB c.args (-9 : Int) (9 : Int))) with g25 | g25
    ·skip
     have g25p := g25
     try simp only [Bool.not_eq_true', Bool.not_eq_false', decide_eq_true_eq, decide_eq_false_iff_not, Bool.and_eq_true, Bool.or_eq_false_iff, withinB_iff] at g25p
     refine kl_gT rfl rfl g25 (kl_mv rfl (kl_andT rfl rfl g25 ?_))
     exact J26 _ (pc 44 rfl (pc 2 rfl (pc 5 rfl (pc 42 rfl pn))))
    ·skip
     refine kl_gF rfl rfl g25 (kl_andF (decide (c.bound = (0 : Int))) rfl rfl g25 ?_)
     exact J26 _ (pc 44 rfl (pc 2 rfl (pc 5 rfl (pc 42 rfl pn))))
   refine kl_mv rfl (kl_join 2 47 (.bool (((decide ((c.vars.length : Int) = (2 : Int)) && (decide ((c.args.length : Int) = (1 : Int)) && allInB c.args (-9 : Int) (9 : Int))) && decide (c.bound = (0 : Int))) && decide ((c.rows.length : Int) = (0 : Int)))) (pc 2 rfl (pc 45 rfl pn)) (fun J28 => ?_) ?_)
   ·rcases Bool.eq_false_or_eq_true ((decide ((c.vars.length : Int) = (2 : Int)) && (decide ((c.args.length : Int) = (1 : Int)) && allInB c.args (-9 : Int) (9 : Int))) && decide (c.bound = (0 : Int))) with g27 | g27
    ·skip
     have g27p := g27
     try simp only [Bool.not_eq_true', Bool.not_eq_false', decide_eq_true_eq, decide_eq_false_iff_not, Bool.and_eq_true, Bool.or_eq_false_iff, withinB_iff] at g27p
     refine kl_gT rfl rfl g27 (kl_mv rfl (kl_andT rfl rfl g27 ?_))
     exact J28 _ (pc 47 rfl (pc 2 rfl (pc 45 rfl pn)))
    ·skip
     refine kl_gF rfl rfl g27 (kl_andF (decide ((c.rows.length : Int) = (0 : Int))) rfl rfl g27 ?_)
     exact J28 _ (pc 47 rfl (pc 2 rfl (pc 45 rfl pn)))
   refine kl_as rfl (kl_nil (kq_code (kc_ret (kq_retP rfl rfl (congrArg Value.bool ?_)))))
   first | (exfalso; omega) | (simp [fitsB, rowsInB, *])
  ·skip
   refine kc_seq (kc_seq (kc_region (kl_eql rfl rfl ?_)))
   refine kl_as rfl (kl_nil (kq_code (kc_if rfl (fun c29 => ?_) (fun c29 => ?_))))
   ·skip
    refine kc_skipQ (kq_code (kc_if rfl (fun c30 => ?_) (fun c30 => ?_)))
    ·skip
     refine kc_seq (kc_region (kl_fd rfl (by assumption) (fun p31 a32 => ?_)))
     refine kl_ld rfl (by assumption) (kl_len rfl (by assumption) (fun l33 => ?_))
     refine kl_eql rfl rfl ?_
     refine kl_mv rfl (kl_join 2 57 (.bool (decide ((c.args.length : Int) = (0 : Int)) && decide (c.bound = (0 : Int)))) (pc 2 rfl (pc 5 rfl (pc 55 rfl pn))) (fun J35 => ?_) ?_)
     ·rcases Bool.eq_false_or_eq_true (decide ((c.args.length : Int) = (0 : Int))) with g34 | g34
      ·skip
       have g34p := of_decide_eq_true g34
       refine kl_gT rfl rfl g34 (kl_mv rfl (kl_andT rfl rfl g34 ?_))
       exact J35 _ (pc 57 rfl (pc 2 rfl (pc 5 rfl (pc 55 rfl pn))))
      ·skip
       refine kl_gF rfl rfl g34 (kl_andF (decide (c.bound = (0 : Int))) rfl rfl g34 ?_)
       exact J35 _ (pc 57 rfl (pc 2 rfl (pc 5 rfl (pc 55 rfl pn))))
     refine kl_mv rfl (kl_join 2 60 (.bool ((decide ((c.args.length : Int) = (0 : Int)) && decide (c.bound = (0 : Int))) && decide ((c.rows.length : Int) = (0 : Int)))) (pc 2 rfl (pc 58 rfl pn)) (fun J37 => ?_) ?_)
     ·rcases Bool.eq_false_or_eq_true (decide ((c.args.length : Int) = (0 : Int)) && decide (c.bound = (0 : Int))) with g36 | g36
      ·skip
       have g36p := g36
       try simp only [Bool.not_eq_true', Bool.not_eq_false', decide_eq_true_eq, decide_eq_false_iff_not, Bool.and_eq_true, Bool.or_eq_false_iff, withinB_iff] at g36p
       refine kl_gT rfl rfl g36 (kl_mv rfl (kl_andT rfl rfl g36 ?_))
       exact J37 _ (pc 60 rfl (pc 2 rfl (pc 58 rfl pn)))
      ·skip
       refine kl_gF rfl rfl g36 (kl_andF (decide ((c.rows.length : Int) = (0 : Int))) rfl rfl g36 ?_)
       exact J37 _ (pc 60 rfl (pc 2 rfl (pc 58 rfl pn)))
     refine kl_as rfl (kl_nil (kq_code (kc_ret (kq_retP rfl rfl (congrArg Value.bool ?_)))))
     first | (exfalso; omega) | (simp [fitsB, rowsInB, *])
    ·skip
     refine kc_seq (kc_region (kl_eql rfl rfl ?_))
     refine kl_as rfl (kl_nil (kq_code (kc_if rfl (fun c38 => ?_) (fun c38 => ?_))))
     ·skip
      refine kc_seq (kc_region (kl_mv rfl (kl_eql rfl rfl ?_)))
      refine kl_mv rfl (kl_join 5 70 (.bool (decide ((c.vars.length : Int) = (2 : Int)) && (withinB (c.args.length : Int) (1 : Int) (6 : Int)))) (pc 1 rfl (pc 2 rfl (pc 5 rfl (pc 6 rfl (pc 65 rfl pn))))) (fun J43 => ?_) ?_)
      ·rcases Bool.eq_false_or_eq_true (decide ((c.vars.length : Int) = (2 : Int))) with g39 | g39
       ·skip
        have g39p := of_decide_eq_true g39
        refine kl_gT rfl rfl g39 (kl_fd rfl (by assumption) (fun p40 a41 => ?_))
        refine kl_gT rfl rfl g39 (kl_ld rfl (by assumption) (kl_gT rfl rfl g39 (kl_len rfl (by assumption) (fun l42 => ?_))))
        refine kl_gT rfl rfl g39 (kl_callP rfl rfl (within_ok (c.args.length : Int) (1 : Int) (6 : Int)) ?_)
        refine kl_andT rfl rfl g39 ?_
        exact J43 _ (pc 70 rfl (pc 1 rfl (pc 2 rfl (pc 5 rfl (pc 6 rfl (pc 65 rfl pn))))))
       ·skip
        refine kl_gF rfl rfl g39 (kl_gF rfl rfl g39 (kl_gF rfl rfl g39 (kl_gF rfl rfl g39 (kl_andF (withinB (c.args.length : Int) (1 : Int) (6 : Int)) rfl rfl g39 ?_))))
        exact J43 _ (pc 70 rfl (pc 1 rfl (pc 2 rfl (pc 5 rfl (pc 6 rfl (pc 65 rfl pn))))))
      refine kl_mv rfl (kl_join 4 75 (.bool ((decide ((c.vars.length : Int) = (2 : Int)) && (withinB (c.args.length : Int) (1 : Int) (6 : Int))) && (allInB c.args (0 : Int) (5 : Int)))) (pc 2 rfl (pc 5 rfl (pc 6 rfl (pc 71 rfl pn)))) (fun J47 => ?_) ?_)
      ·rcases Bool.eq_false_or_eq_true (decide ((c.vars.length : Int) = (2 : Int)) && (withinB (c.args.length : Int) (1 : Int) (6 : Int))) with g44 | g44
       ·skip
        have g44p := g44
        try simp only [Bool.not_eq_true', Bool.not_eq_false', decide_eq_true_eq, decide_eq_false_iff_not, Bool.and_eq_true, Bool.or_eq_false_iff, withinB_iff] at g44p
        refine kl_gT rfl rfl g44 (kl_fd rfl (by assumption) (fun p45 a46 => ?_))
        refine kl_gT rfl rfl g44 (kl_ld rfl (by assumption) (kl_gT rfl rfl g44 (kl_callP rfl rfl (allIn_ok c.args (0 : Int) (5 : Int) (by assumption)) ?_)))
        refine kl_andT rfl rfl g44 ?_
        exact J47 _ (pc 75 rfl (pc 2 rfl (pc 5 rfl (pc 6 rfl (pc 71 rfl pn)))))
       ·skip
        refine kl_gF rfl rfl g44 (kl_gF rfl rfl g44 (kl_gF rfl rfl g44 (kl_andF (allInB c.args (0 : Int) (5 : Int)) rfl rfl g44 ?_)))
        exact J47 _ (pc 75 rfl (pc 2 rfl (pc 5 rfl (pc 6 rfl (pc 71 rfl pn)))))
      refine kl_mv rfl (kl_join 2 78 (.bool (((decide ((c.vars.length : Int) = (2 : Int)) && (withinB (c.args.length : Int) (1 : Int) (6 : Int))) && (allInB c.args (0 : Int) (5 : Int))) && decide (c.bound = (0 : Int)))) (pc 2 rfl (pc 5 rfl (pc 76 rfl pn))) (fun J49 => ?_) ?_)
      ·rcases Bool.eq_false_or_eq_true ((decide ((c.vars.length : Int) = (2 : Int)) && (withinB (c.args.length : Int) (1 : Int) (6 : Int))) && (allInB c.args (0 : Int) (5 : Int))) with g48 | g48
       ·skip
        have g48p := g48
        try simp only [Bool.not_eq_true', Bool.not_eq_false', decide_eq_true_eq, decide_eq_false_iff_not, Bool.and_eq_true, Bool.or_eq_false_iff, withinB_iff] at g48p
        refine kl_gT rfl rfl g48 (kl_mv rfl (kl_andT rfl rfl g48 ?_))
        exact J49 _ (pc 78 rfl (pc 2 rfl (pc 5 rfl (pc 76 rfl pn))))
       ·skip
        refine kl_gF rfl rfl g48 (kl_andF (decide (c.bound = (0 : Int))) rfl rfl g48 ?_)
        exact J49 _ (pc 78 rfl (pc 2 rfl (pc 5 rfl (pc 76 rfl pn))))
      refine kl_mv rfl (kl_join 2 81 (.bool ((((decide ((c.vars.length : Int) = (2 : Int)) && (withinB (c.args.length : Int) (1 : Int) (6 : Int))) && (allInB c.args (0 : Int) (5 : Int))) && decide (c.bound = (0 : Int))) && decide ((c.rows.length : Int) = (0 : Int)))) (pc 2 rfl (pc 79 rfl pn)) (fun J51 => ?_) ?_)
      ·rcases Bool.eq_false_or_eq_true (((decide ((c.vars.length : Int) = (2 : Int)) && (withinB (c.args.length : Int) (1 : Int) (6 : Int))) && (allInB c.args (0 : Int) (5 : Int))) && decide (c.bound = (0 : Int))) with g50 | g50
       ·skip
        have g50p := g50
        try simp only [Bool.not_eq_true', Bool.not_eq_false', decide_eq_true_eq, decide_eq_false_iff_not, Bool.and_eq_true, Bool.or_eq_false_iff, withinB_iff] at g50p
        refine kl_gT rfl rfl g50 (kl_mv rfl (kl_andT rfl rfl g50 ?_))
        exact J51 _ (pc 81 rfl (pc 2 rfl (pc 79 rfl pn)))
       ·skip
        refine kl_gF rfl rfl g50 (kl_andF (decide ((c.rows.length : Int) = (0 : Int))) rfl rfl g50 ?_)
        exact J51 _ (pc 81 rfl (pc 2 rfl (pc 79 rfl pn)))
      refine kl_as rfl (kl_nil (kq_code (kc_ret (kq_retP rfl rfl (congrArg Value.bool ?_)))))
      first | (exfalso; omega) | (simp [fitsB, rowsInB, *])
     ·skip
      refine kc_seq (kc_region (kl_eql rfl rfl ?_))
      refine kl_as rfl (kl_nil (kq_code (kc_if rfl (fun c52 => ?_) (fun c52 => ?_))))
      ·skip
       refine kc_seq (kc_region (kl_fd rfl (by assumption) (fun p53 a54 => ?_)))
       refine kl_ld rfl (by assumption) (kl_len rfl (by assumption) (fun l55 => ?_))
       refine kl_eql rfl rfl ?_
       refine kl_mv rfl (kl_join 2 90 (.bool (decide ((c.args.length : Int) = (0 : Int)) && decide (c.bound = (0 : Int)))) (pc 1 rfl (pc 2 rfl (pc 3 rfl (pc 88 rfl pn)))) (fun J57 => ?_) ?_)
       ·rcases Bool.eq_false_or_eq_true (decide ((c.args.length : Int) = (0 : Int))) with g56 | g56
        ·skip
         have g56p := of_decide_eq_true g56
         refine kl_gT rfl rfl g56 (kl_mv rfl (kl_andT rfl rfl g56 ?_))
         exact J57 _ (pc 90 rfl (pc 1 rfl (pc 2 rfl (pc 3 rfl (pc 88 rfl pn)))))
        ·skip
         refine kl_gF rfl rfl g56 (kl_andF (decide (c.bound = (0 : Int))) rfl rfl g56 ?_)
         exact J57 _ (pc 90 rfl (pc 1 rfl (pc 2 rfl (pc 3 rfl (pc 88 rfl pn)))))
       refine kl_mv rfl (kl_join 5 96 (.bool ((decide ((c.args.length : Int) = (0 : Int)) && decide (c.bound = (0 : Int))) && (withinB c.rows.length 1 8 && c.rows.all fun r => decide ((r.length : Int) = (c.vars.length : Int)) && allInB r (0 : Int) (5 : Int)))) (pc 2 rfl (pc 91 rfl pn)) (fun J61 => ?_) ?_)
       ·rcases Bool.eq_false_or_eq_true (decide ((c.args.length : Int) = (0 : Int)) && decide (c.bound = (0 : Int))) with g58 | g58
        ·skip
         have g58p := g58
         try simp only [Bool.not_eq_true', Bool.not_eq_false', decide_eq_true_eq, decide_eq_false_iff_not, Bool.and_eq_true, Bool.or_eq_false_iff, withinB_iff] at g58p
         refine kl_gT rfl rfl g58 (kl_fd rfl (by assumption) (fun p59 a60 => ?_))
         refine kl_gT rfl rfl g58 (kl_ld rfl (by assumption) (kl_gT rfl rfl g58 (kl_mv rfl (kl_gT rfl rfl g58 (kl_callP rfl rfl (rowsIn_ok c.rows (c.vars.length : Int) (0 : Int) (5 : Int) (by assumption)) ?_)))))
         refine kl_andT rfl rfl g58 ?_
         exact J61 _ (pc 96 rfl (pc 2 rfl (pc 91 rfl pn)))
        ·skip
         refine kl_gF rfl rfl g58 (kl_gF rfl rfl g58 (kl_gF rfl rfl g58 (kl_gF rfl rfl g58 (kl_andF (withinB c.rows.length 1 8 && c.rows.all fun r => decide ((r.length : Int) = (c.vars.length : Int)) && allInB r (0 : Int) (5 : Int)) rfl rfl g58 ?_))))
         exact J61 _ (pc 96 rfl (pc 2 rfl (pc 91 rfl pn)))
       refine kl_as rfl (kl_nil (kq_code (kc_ret (kq_retP rfl rfl (congrArg Value.bool ?_)))))
       first | (exfalso; omega) | (simp [fitsB, rowsInB, *])
      ·skip
       refine kc_seq (kc_region (kl_eql rfl rfl ?_))
       refine kl_as rfl (kl_nil (kq_code (kc_if rfl (fun c62 => ?_) (fun c62 => ?_))))
       ·skip
        refine kc_seq (kc_region (kl_mv rfl (kl_callP rfl rfl (fits1_ok (1 : Int) (0 : Int) (5 : Int) c (by assumption) (by assumption) (by assumption) (by assumption)) ?_)))
        refine kl_mv rfl (kl_join 4 105 (.bool ((decide ((c.args.length : Int) = (1 : Int)) && allInB c.args (0 : Int) (5 : Int)) && (withinB c.bound (0 : Int) (4 : Int)))) (pc 2 rfl (pc 5 rfl (pc 101 rfl pn))) (fun J66 => ?_) ?_)
        ·rcases Bool.eq_false_or_eq_true (decide ((c.args.length : Int) = (1 : Int)) && allInB c.args (0 : Int) (5 : Int)) with g63 | g63
         ·skip
          have g63p := g63
          try simp only [Bool.not_eq_true', Bool.not_eq_false', decide_eq_true_eq, decide_eq_false_iff_not, Bool.and_eq_true, Bool.or_eq_false_iff, withinB_iff] at g63p
          refine kl_gT rfl rfl g63 (kl_fd rfl (by assumption) (fun p64 a65 => ?_))
          refine kl_gT rfl rfl g63 (kl_ld rfl (by assumption) (kl_gT rfl rfl g63 (kl_callP rfl rfl (within_ok c.bound (0 : Int) (4 : Int)) ?_)))
          refine kl_andT rfl rfl g63 ?_
          exact J66 _ (pc 105 rfl (pc 2 rfl (pc 5 rfl (pc 101 rfl pn))))
         ·skip
          refine kl_gF rfl rfl g63 (kl_gF rfl rfl g63 (kl_gF rfl rfl g63 (kl_andF (withinB c.bound (0 : Int) (4 : Int)) rfl rfl g63 ?_)))
          exact J66 _ (pc 105 rfl (pc 2 rfl (pc 5 rfl (pc 101 rfl pn))))
        refine kl_mv rfl (kl_join 2 108 (.bool (((decide ((c.args.length : Int) = (1 : Int)) && allInB c.args (0 : Int) (5 : Int)) && (withinB c.bound (0 : Int) (4 : Int))) && decide ((c.rows.length : Int) = (0 : Int)))) (pc 2 rfl (pc 106 rfl pn)) (fun J68 => ?_) ?_)
        ·rcases Bool.eq_false_or_eq_true ((decide ((c.args.length : Int) = (1 : Int)) && allInB c.args (0 : Int) (5 : Int)) && (withinB c.bound (0 : Int) (4 : Int))) with g67 | g67
         ·skip
          have g67p := g67
          try simp only [Bool.not_eq_true', Bool.not_eq_false', decide_eq_true_eq, decide_eq_false_iff_not, Bool.and_eq_true, Bool.or_eq_false_iff, withinB_iff] at g67p
          refine kl_gT rfl rfl g67 (kl_mv rfl (kl_andT rfl rfl g67 ?_))
          exact J68 _ (pc 108 rfl (pc 2 rfl (pc 106 rfl pn)))
         ·skip
          refine kl_gF rfl rfl g67 (kl_andF (decide ((c.rows.length : Int) = (0 : Int))) rfl rfl g67 ?_)
          exact J68 _ (pc 108 rfl (pc 2 rfl (pc 106 rfl pn)))
        refine kl_as rfl (kl_nil (kq_code (kc_ret (kq_retP rfl rfl (congrArg Value.bool ?_)))))
        first | (exfalso; omega) | (simp [fitsB, rowsInB, *])
       ·skip
        refine kc_seq (kc_region (kl_eql rfl rfl ?_))
        refine kl_as rfl (kl_nil (kq_code (kc_if rfl (fun c69 => ?_) (fun c69 => ?_))))
        ·skip
         refine kc_seq (kc_region (kl_mv rfl (kl_mv rfl (kl_mul rfl rfl (by omega) ?_))))
         refine kl_callP rfl rfl (fits1_ok ((2 : Int) * (c.vars.length : Int)) (0 : Int) (9 : Int) c (by assumption) (by assumption) (by assumption) (by assumption)) ?_
         refine kl_mv rfl (kl_join 4 119 (.bool ((decide ((c.args.length : Int) = ((2 : Int) * (c.vars.length : Int))) && allInB c.args (0 : Int) (9 : Int)) && (withinB c.bound (0 : Int) (9 : Int)))) (pc 2 rfl (pc 5 rfl (pc 115 rfl pn))) (fun J73 => ?_) ?_)
         ·rcases Bool.eq_false_or_eq_true (decide ((c.args.length : Int) = ((2 : Int) * (c.vars.length : Int))) && allInB c.args (0 : Int) (9 : Int)) with g70 | g70
          ·skip
           have g70p := g70
           try simp only [Bool.not_eq_true', Bool.not_eq_false', decide_eq_true_eq, decide_eq_false_iff_not, Bool.and_eq_true, Bool.or_eq_false_iff, withinB_iff] at g70p
           refine kl_gT rfl rfl g70 (kl_fd rfl (by assumption) (fun p71 a72 => ?_))
           refine kl_gT rfl rfl g70 (kl_ld rfl (by assumption) (kl_gT rfl rfl g70 (kl_callP rfl rfl (within_ok c.bound (0 : Int) (9 : Int)) ?_)))
           refine kl_andT rfl rfl g70 ?_
           exact J73 _ (pc 119 rfl (pc 2 rfl (pc 5 rfl (pc 115 rfl pn))))
          ·skip
           refine kl_gF rfl rfl g70 (kl_gF rfl rfl g70 (kl_gF rfl rfl g70 (kl_andF (withinB c.bound (0 : Int) (9 : Int)) rfl rfl g70 ?_)))
           exact J73 _ (pc 119 rfl (pc 2 rfl (pc 5 rfl (pc 115 rfl pn))))
         refine kl_mv rfl (kl_join 2 122 (.bool (((decide ((c.args.length : Int) = ((2 : Int) * (c.vars.length : Int))) && allInB c.args (0 : Int) (9 : Int)) && (withinB c.bound (0 : Int) (9 : Int))) && decide ((c.rows.length : Int) = (0 : Int)))) (pc 2 rfl (pc 120 rfl pn)) (fun J75 => ?_) ?_)
         ·rcases Bool.eq_false_or_eq_true ((decide ((c.args.length : Int) = ((2 : Int) * (c.vars.length : Int))) && allInB c.args (0 : Int) (9 : Int)) && (withinB c.bound (0 : Int) (9 : Int))) with g74 | g74
          ·skip
           have g74p := g74
           try simp only [Bool.not_eq_true', Bool.not_eq_false', decide_eq_true_eq, decide_eq_false_iff_not, Bool.and_eq_true, Bool.or_eq_false_iff, withinB_iff] at g74p
           refine kl_gT rfl rfl g74 (kl_mv rfl (kl_andT rfl rfl g74 ?_))
           exact J75 _ (pc 122 rfl (pc 2 rfl (pc 120 rfl pn)))
          ·skip
           refine kl_gF rfl rfl g74 (kl_andF (decide ((c.rows.length : Int) = (0 : Int))) rfl rfl g74 ?_)
           exact J75 _ (pc 122 rfl (pc 2 rfl (pc 120 rfl pn)))
         refine kl_as rfl (kl_nil (kq_code (kc_ret (kq_retP rfl rfl (congrArg Value.bool ?_)))))
         first | (exfalso; omega) | (simp [fitsB, rowsInB, *])
        ·skip
         refine kc_seq (kc_region (kl_eql rfl rfl ?_))
         refine kl_as rfl (kl_nil (kq_code (kc_if rfl (fun c76 => ?_) (fun c76 => ?_))))
         ·skip
          refine kc_seq (kc_region (kl_fd rfl (by assumption) (fun p77 a78 => ?_)))
          refine kl_ld rfl (by assumption) (kl_len rfl (by assumption) (fun l79 => ?_))
          refine kl_sub rfl rfl (by omega) ?_
          refine kl_as rfl (kl_nil (kq_code (kc_seq (kc_region (kl_fd rfl (by assumption) (fun p80 a81 => ?_))))))
          refine kl_ld rfl (by assumption) (kl_mv rfl (kl_callP rfl rfl (rowsIn_ok c.rows (6 : Int) (-1 : Int) ((c.rows.length : Int) - (1 : Int)) (by assumption)) ?_))
          refine kl_mv rfl (kl_join 4 137 (.bool ((withinB c.rows.length 1 8 && c.rows.all fun r => decide ((r.length : Int) = (6 : Int)) && allInB r (-1 : Int) ((c.rows.length : Int) - (1 : Int))) && (distinctB c.args))) (pc 1 rfl (pc 2 rfl (pc 6 rfl (pc 7 rfl (pc 133 rfl pn))))) (fun J85 => ?_) ?_)
          ·rcases Bool.eq_false_or_eq_true (withinB c.rows.length 1 8 && c.rows.all fun r => decide ((r.length : Int) = (6 : Int)) && allInB r (-1 : Int) ((c.rows.length : Int) - (1 : Int))) with g82 | g82
           ·skip
            have g82p := g82
            try simp only [Bool.not_eq_true', Bool.not_eq_false', decide_eq_true_eq, decide_eq_false_iff_not, Bool.and_eq_true, Bool.or_eq_false_iff, withinB_iff] at g82p
            refine kl_gT rfl rfl g82 (kl_fd rfl (by assumption) (fun p83 a84 => ?_))
            refine kl_gT rfl rfl g82 (kl_ld rfl (by assumption) (kl_gT rfl rfl g82 (kl_callP rfl rfl (distinct_ok c.args (by assumption)) ?_)))
            refine kl_andT rfl rfl g82 ?_
            exact J85 _ (pc 137 rfl (pc 1 rfl (pc 2 rfl (pc 6 rfl (pc 7 rfl (pc 133 rfl pn))))))
           ·skip
            refine kl_gF rfl rfl g82 (kl_gF rfl rfl g82 (kl_gF rfl rfl g82 (kl_andF (distinctB c.args) rfl rfl g82 ?_)))
            exact J85 _ (pc 137 rfl (pc 1 rfl (pc 2 rfl (pc 6 rfl (pc 7 rfl (pc 133 rfl pn))))))
          refine kl_mv rfl (kl_join 5 143 (.bool (((withinB c.rows.length 1 8 && c.rows.all fun r => decide ((r.length : Int) = (6 : Int)) && allInB r (-1 : Int) ((c.rows.length : Int) - (1 : Int))) && (distinctB c.args)) && (allInB c.args (0 : Int) ((c.rows.length : Int) - (1 : Int))))) (pc 2 rfl (pc 6 rfl (pc 138 rfl pn))) (fun J89 => ?_) ?_)
          ·rcases Bool.eq_false_or_eq_true ((withinB c.rows.length 1 8 && c.rows.all fun r => decide ((r.length : Int) = (6 : Int)) && allInB r (-1 : Int) ((c.rows.length : Int) - (1 : Int))) && (distinctB c.args)) with g86 | g86
           ·skip
            have g86p := g86
            try simp only [Bool.not_eq_true', Bool.not_eq_false', decide_eq_true_eq, decide_eq_false_iff_not, Bool.and_eq_true, Bool.or_eq_false_iff, withinB_iff] at g86p
            refine kl_gT rfl rfl g86 (kl_fd rfl (by assumption) (fun p87 a88 => ?_))
            refine kl_gT rfl rfl g86 (kl_ld rfl (by assumption) (kl_gT rfl rfl g86 (kl_mv rfl (kl_gT rfl rfl g86 (kl_callP rfl rfl (allIn_ok c.args (0 : Int) ((c.rows.length : Int) - (1 : Int)) (by assumption)) ?_)))))
            refine kl_andT rfl rfl g86 ?_
            exact J89 _ (pc 143 rfl (pc 2 rfl (pc 6 rfl (pc 138 rfl pn))))
           ·skip
            refine kl_gF rfl rfl g86 (kl_gF rfl rfl g86 (kl_gF rfl rfl g86 (kl_gF rfl rfl g86 (kl_andF (allInB c.args (0 : Int) ((c.rows.length : Int) - (1 : Int))) rfl rfl g86 ?_))))
            exact J89 _ (pc 143 rfl (pc 2 rfl (pc 6 rfl (pc 138 rfl pn))))
          refine kl_mv rfl (kl_join 2 146 (.bool ((((withinB c.rows.length 1 8 && c.rows.all fun r => decide ((r.length : Int) = (6 : Int)) && allInB r (-1 : Int) ((c.rows.length : Int) - (1 : Int))) && (distinctB c.args)) && (allInB c.args (0 : Int) ((c.rows.length : Int) - (1 : Int)))) && decide (c.bound = (0 : Int)))) (pc 2 rfl (pc 144 rfl pn)) (fun J91 => ?_) ?_)
          ·rcases Bool.eq_false_or_eq_true (((withinB c.rows.length 1 8 && c.rows.all fun r => decide ((r.length : Int) = (6 : Int)) && allInB r (-1 : Int) ((c.rows.length : Int) - (1 : Int))) && (distinctB c.args)) && (allInB c.args (0 : Int) ((c.rows.length : Int) - (1 : Int)))) with g90 | g90
           ·skip
            have g90p := g90
            try simp only [Bool.not_eq_true', Bool.not_eq_false', decide_eq_true_eq, decide_eq_false_iff_not, Bool.and_eq_true, Bool.or_eq_false_iff, withinB_iff] at g90p
            refine kl_gT rfl rfl g90 (kl_mv rfl (kl_andT rfl rfl g90 ?_))
            exact J91 _ (pc 146 rfl (pc 2 rfl (pc 144 rfl pn)))
           ·skip
            refine kl_gF rfl rfl g90 (kl_andF (decide (c.bound = (0 : Int))) rfl rfl g90 ?_)
            exact J91 _ (pc 146 rfl (pc 2 rfl (pc 144 rfl pn)))
          refine kl_as rfl (kl_nil (kq_code (kc_ret (kq_retP rfl rfl (congrArg Value.bool ?_)))))
          first | (exfalso; omega) | (simp [fitsB, rowsInB, *])
         ·skip
          refine kc_skipQ (kq_code (kc_seq (kc_region (kl_as rfl (kl_nil (kq_code (kc_ret (kq_retP rfl rfl (congrArg Value.bool ?_)))))))))
          first | (exfalso; omega) | (simp [fitsB, rowsInB, *])
   ·skip
    refine kc_region (kl_eql rfl rfl ?_)
    refine kl_as rfl (kl_nil (kq_code (kc_if rfl (fun c92 => ?_) (fun c92 => ?_))))
    ·skip
     refine kc_seq (kc_region (kl_fd rfl (by assumption) (fun p93 a94 => ?_)))
     refine kl_ld rfl (by assumption) (kl_len rfl (by assumption) (fun l95 => ?_))
     refine kl_eql rfl rfl ?_
     refine kl_mv rfl (kl_join 2 57 (.bool (decide ((c.args.length : Int) = (0 : Int)) && decide (c.bound = (0 : Int)))) (pc 2 rfl (pc 5 rfl (pc 55 rfl pn))) (fun J97 => ?_) ?_)
     ·rcases Bool.eq_false_or_eq_true (decide ((c.args.length : Int) = (0 : Int))) with g96 | g96
      ·skip
       have g96p := of_decide_eq_true g96
       refine kl_gT rfl rfl g96 (kl_mv rfl (kl_andT rfl rfl g96 ?_))
       exact J97 _ (pc 57 rfl (pc 2 rfl (pc 5 rfl (pc 55 rfl pn))))
      ·skip
       refine kl_gF rfl rfl g96 (kl_andF (decide (c.bound = (0 : Int))) rfl rfl g96 ?_)
       exact J97 _ (pc 57 rfl (pc 2 rfl (pc 5 rfl (pc 55 rfl pn))))
     refine kl_mv rfl (kl_join 2 60 (.bool ((decide ((c.args.length : Int) = (0 : Int)) && decide (c.bound = (0 : Int))) && decide ((c.rows.length : Int) = (0 : Int)))) (pc 2 rfl (pc 58 rfl pn)) (fun J99 => ?_) ?_)
     ·rcases Bool.eq_false_or_eq_true (decide ((c.args.length : Int) = (0 : Int)) && decide (c.bound = (0 : Int))) with g98 | g98
      ·skip
       have g98p := g98
       try simp only [Bool.not_eq_true', Bool.not_eq_false', decide_eq_true_eq, decide_eq_false_iff_not, Bool.and_eq_true, Bool.or_eq_false_iff, withinB_iff] at g98p
       refine kl_gT rfl rfl g98 (kl_mv rfl (kl_andT rfl rfl g98 ?_))
       exact J99 _ (pc 60 rfl (pc 2 rfl (pc 58 rfl pn)))
      ·skip
       refine kl_gF rfl rfl g98 (kl_andF (decide ((c.rows.length : Int) = (0 : Int))) rfl rfl g98 ?_)
       exact J99 _ (pc 60 rfl (pc 2 rfl (pc 58 rfl pn)))
     refine kl_as rfl (kl_nil (kq_code (kc_ret (kq_retP rfl rfl (congrArg Value.bool ?_)))))
     first | (exfalso; omega) | (simp [fitsB, rowsInB, *])
    ·skip
     refine kc_seq (kc_region (kl_eql rfl rfl ?_))
     refine kl_as rfl (kl_nil (kq_code (kc_if rfl (fun c100 => ?_) (fun c100 => ?_))))
     ·skip
      refine kc_seq (kc_region (kl_mv rfl (kl_eql rfl rfl ?_)))
      refine kl_mv rfl (kl_join 5 70 (.bool (decide ((c.vars.length : Int) = (2 : Int)) && (withinB (c.args.length : Int) (1 : Int) (6 : Int)))) (pc 1 rfl (pc 2 rfl (pc 5 rfl (pc 6 rfl (pc 65 rfl pn))))) (fun J105 => ?_) ?_)
      ·rcases Bool.eq_false_or_eq_true (decide ((c.vars.length : Int) = (2 : Int))) with g101 | g101
       ·skip
        have g101p := of_decide_eq_true g101
        refine kl_gT rfl rfl g101 (kl_fd rfl (by assumption) (fun p102 a103 => ?_))
        refine kl_gT rfl rfl g101 (kl_ld rfl (by assumption) (kl_gT rfl rfl g101 (kl_len rfl (by assumption) (fun l104 => ?_))))
        refine kl_gT rfl rfl g101 (kl_callP rfl rfl (within_ok (c.args.length : Int) (1 : Int) (6 : Int)) ?_)
        refine kl_andT rfl rfl g101 ?_
        exact J105 _ (pc 70 rfl (pc 1 rfl (pc 2 rfl (pc 5 rfl (pc 6 rfl (pc 65 rfl pn))))))
       ·skip
        refine kl_gF rfl rfl g101 (kl_gF rfl rfl g101 (kl_gF rfl rfl g101 (kl_gF rfl rfl g101 (kl_andF (withinB (c.args.length : Int) (1 : Int) (6 : Int)) rfl rfl g101 ?_))))
        exact J105 _ (pc 70 rfl (pc 1 rfl (pc 2 rfl (pc 5 rfl (pc 6 rfl (pc 65 rfl pn))))))
      refine kl_mv rfl (kl_join 4 75 (.bool ((decide ((c.vars.length : Int) = (2 : Int)) && (withinB (c.args.length : Int) (1 : Int) (6 : Int))) && (allInB c.args (0 : Int) (5 : Int)))) (pc 2 rfl (pc 5 rfl (pc 6 rfl (pc 71 rfl pn)))) (fun J109 => ?_) ?_)
      ·rcases Bool.eq_false_or_eq_true (decide ((c.vars.length : Int) = (2 : Int)) && (withinB (c.args.length : Int) (1 : Int) (6 : Int))) with g106 | g106
       ·skip
        have g106p := g106
        try simp only [Bool.not_eq_true', Bool.not_eq_false', decide_eq_true_eq, decide_eq_false_iff_not, Bool.and_eq_true, Bool.or_eq_false_iff, withinB_iff] at g106p
        refine kl_gT rfl rfl g106 (kl_fd rfl (by assumption) (fun p107 a108 => ?_))
        refine kl_gT rfl rfl g106 (kl_ld rfl (by assumption) (kl_gT rfl rfl g106 (kl_callP rfl rfl (allIn_ok c.args (0 : Int) (5 : Int) (by assumption)) ?_)))
        refine kl_andT rfl rfl g106 ?_
        exact J109 _ (pc 75 rfl (pc 2 rfl (pc 5 rfl (pc 6 rfl (pc 71 rfl pn)))))
       ·skip
        refine kl_gF rfl rfl g106 (kl_gF rfl rfl g106 (kl_gF rfl rfl g106 (kl_andF (allInB c.args (0 : Int) (5 : Int)) rfl rfl g106 ?_)))
        exact J109 _ (pc 75 rfl (pc 2 rfl (pc 5 rfl (pc 6 rfl (pc 71 rfl pn)))))
      refine kl_mv rfl (kl_join 2 78 (.bool (((decide ((c.vars.length : Int) = (2 : Int)) && (withinB (c.args.length : Int) (1 : Int) (6 : Int))) && (allInB c.args (0 : Int) (5 : Int))) && decide (c.bound = (0 : Int)))) (pc 2 rfl (pc 5 rfl (pc 76 rfl pn))) (fun J111 => ?_) ?_)
      ·rcases Bool.eq_false_or_eq_true ((decide ((c.vars.length : Int) = (2 : Int)) && (withinB (c.args.length : Int) (1 : Int) (6 : Int))) && (allInB c.args (0 : Int) (5 : Int))) with g110 | g110
       ·skip
        have g110p := g110
        try simp only [Bool.not_eq_true', Bool.not_eq_false', decide_eq_true_eq, decide_eq_false_iff_not, Bool.and_eq_true, Bool.or_eq_false_iff, withinB_iff] at g110p
        refine kl_gT rfl rfl g110 (kl_mv rfl (kl_andT rfl rfl g110 ?_))
        exact J111 _ (pc 78 rfl (pc 2 rfl (pc 5 rfl (pc 76 rfl pn))))
       ·skip
        refine kl_gF rfl rfl g110 (kl_andF (decide (c.bound = (0 : Int))) rfl rfl g110 ?_)
        exact J111 _ (pc 78 rfl (pc 2 rfl (pc 5 rfl (pc 76 rfl pn))))
      refine kl_mv rfl (kl_join 2 81 (.bool ((((decide ((c.vars.length : Int) = (2 : Int)) && (withinB (c.args.length : Int) (1 : Int) (6 : Int))) && (allInB c.args (0 : Int) (5 : Int))) && decide (c.bound = (0 : Int))) && decide ((c.rows.length : Int) = (0 : Int)))) (pc 2 rfl (pc 79 rfl pn)) (fun J113 => ?_) ?_)
      ·rcases Bool.eq_false_or_eq_true (((decide ((c.vars.length : Int) = (2 : Int)) && (withinB (c.args.length : Int) (1 : Int) (6 : Int))) && (allInB c.args (0 : Int) (5 : Int))) && decide (c.bound = (0 : Int))) with g112 | g112
       ·skip
        have g112p := g112
        try simp only [Bool.not_eq_true', Bool.not_eq_false', decide_eq_true_eq, decide_eq_false_iff_not, Bool.and_eq_true, Bool.or_eq_false_iff, withinB_iff] at g112p
        refine kl_gT rfl rfl g112 (kl_mv rfl (kl_andT rfl rfl g112 ?_))
        exact J113 _ (pc 81 rfl (pc 2 rfl (pc 79 rfl pn)))
       ·skip
        refine kl_gF rfl rfl g112 (kl_andF (decide ((c.rows.length : Int) = (0 : Int))) rfl rfl g112 ?_)
        exact J113 _ (pc 81 rfl (pc 2 rfl (pc 79 rfl pn)))
      refine kl_as rfl (kl_nil (kq_code (kc_ret (kq_retP rfl rfl (congrArg Value.bool ?_)))))
      first | (exfalso; omega) | (simp [fitsB, rowsInB, *])
     ·skip
      refine kc_seq (kc_region (kl_eql rfl rfl ?_))
      refine kl_as rfl (kl_nil (kq_code (kc_if rfl (fun c114 => ?_) (fun c114 => ?_))))
      ·skip
       refine kc_seq (kc_region (kl_fd rfl (by assumption) (fun p115 a116 => ?_)))
       refine kl_ld rfl (by assumption) (kl_len rfl (by assumption) (fun l117 => ?_))
       refine kl_eql rfl rfl ?_
       refine kl_mv rfl (kl_join 2 90 (.bool (decide ((c.args.length : Int) = (0 : Int)) && decide (c.bound = (0 : Int)))) (pc 1 rfl (pc 2 rfl (pc 3 rfl (pc 88 rfl pn)))) (fun J119 => ?_) ?_)
       ·rcases Bool.eq_false_or_eq_true (decide ((c.args.length : Int) = (0 : Int))) with g118 | g118
        ·skip
         have g118p := of_decide_eq_true g118
         refine kl_gT rfl rfl g118 (kl_mv rfl (kl_andT rfl rfl g118 ?_))
         exact J119 _ (pc 90 rfl (pc 1 rfl (pc 2 rfl (pc 3 rfl (pc 88 rfl pn)))))
        ·skip
         refine kl_gF rfl rfl g118 (kl_andF (decide (c.bound = (0 : Int))) rfl rfl g118 ?_)
         exact J119 _ (pc 90 rfl (pc 1 rfl (pc 2 rfl (pc 3 rfl (pc 88 rfl pn)))))
       refine kl_mv rfl (kl_join 5 96 (.bool ((decide ((c.args.length : Int) = (0 : Int)) && decide (c.bound = (0 : Int))) && (withinB c.rows.length 1 8 && c.rows.all fun r => decide ((r.length : Int) = (c.vars.length : Int)) && allInB r (0 : Int) (5 : Int)))) (pc 2 rfl (pc 91 rfl pn)) (fun J123 => ?_) ?_)
       ·rcases Bool.eq_false_or_eq_true (decide ((c.args.length : Int) = (0 : Int)) && decide (c.bound = (0 : Int))) with g120 | g120
        ·skip
         have g120p := g120
         try simp only [Bool.not_eq_true', Bool.not_eq_false', decide_eq_true_eq, decide_eq_false_iff_not, Bool.and_eq_true, Bool.or_eq_false_iff, withinB_iff] at g120p
         refine kl_gT rfl rfl g120 (kl_fd rfl (by assumption) (fun p121 a122 => ?_))
         refine kl_gT rfl rfl g120 (kl_ld rfl (by assumption) (kl_gT rfl rfl g120 (kl_mv rfl (kl_gT rfl rfl g120 (kl_callP rfl rfl (rowsIn_ok c.rows (c.vars.length : Int) (0 : Int) (5 : Int) (by assumption)) ?_)))))
         refine kl_andT rfl rfl g120 ?_
         exact J123 _ (pc 96 rfl (pc 2 rfl (pc 91 rfl pn)))
        ·skip
         refine kl_gF rfl rfl g120 (kl_gF rfl rfl g120 (kl_gF rfl rfl g120 (kl_gF rfl rfl g120 (kl_andF (withinB c.rows.length 1 8 && c.rows.all fun r => decide ((r.length : Int) = (c.vars.length : Int)) && allInB r (0 : Int) (5 : Int)) rfl rfl g120 ?_))))
         exact J123 _ (pc 96 rfl (pc 2 rfl (pc 91 rfl pn)))
       refine kl_as rfl (kl_nil (kq_code (kc_ret (kq_retP rfl rfl (congrArg Value.bool ?_)))))
       first | (exfalso; omega) | (simp [fitsB, rowsInB, *])
      ·skip
       refine kc_seq (kc_region (kl_eql rfl rfl ?_))
       refine kl_as rfl (kl_nil (kq_code (kc_if rfl (fun c124 => ?_) (fun c124 => ?_))))
       ·skip
        refine kc_seq (kc_region (kl_mv rfl (kl_callP rfl rfl (fits1_ok (1 : Int) (0 : Int) (5 : Int) c (by assumption) (by assumption) (by assumption) (by assumption)) ?_)))
        refine kl_mv rfl (kl_join 4 105 (.bool ((decide ((c.args.length : Int) = (1 : Int)) && allInB c.args (0 : Int) (5 : Int)) && (withinB c.bound (0 : Int) (4 : Int)))) (pc 2 rfl (pc 5 rfl (pc 101 rfl pn))) (fun J128 => ?_) ?_)
        ·rcases Bool.eq_false_or_eq_true (decide ((c.args.length : Int) = (1 : Int)) && allInB c.args (0 : Int) (5 : Int)) with g125 | g125
         ·skip
          have g125p := g125
          try simp only [Bool.not_eq_true', Bool.not_eq_false', decide_eq_true_eq, decide_eq_false_iff_not, Bool.and_eq_true, Bool.or_eq_false_iff, withinB_iff] at g125p
          refine kl_gT rfl rfl g125 (kl_fd rfl (by assumption) (fun p126 a127 => ?_))
          refine kl_gT rfl rfl g125 (kl_ld rfl (by assumption) (kl_gT rfl rfl g125 (kl_callP rfl rfl (within_ok c.bound (0 : Int) (4 : Int)) ?_)))
          refine kl_andT rfl rfl g125 ?_
          exact J128 _ (pc 105 rfl (pc 2 rfl (pc 5 rfl (pc 101 rfl pn))))
         ·skip
          refine kl_gF rfl rfl g125 (kl_gF rfl rfl g125 (kl_gF rfl rfl g125 (kl_andF (withinB c.bound (0 : Int) (4 : Int)) rfl rfl g125 ?_)))
          exact J128 _ (pc 105 rfl (pc 2 rfl (pc 5 rfl (pc 101 rfl pn))))
        refine kl_mv rfl (kl_join 2 108 (.bool (((decide ((c.args.length : Int) = (1 : Int)) && allInB c.args (0 : Int) (5 : Int)) && (withinB c.bound (0 : Int) (4 : Int))) && decide ((c.rows.length : Int) = (0 : Int)))) (pc 2 rfl (pc 106 rfl pn)) (fun J130 => ?_) ?_)
        ·rcases Bool.eq_false_or_eq_true ((decide ((c.args.length : Int) = (1 : Int)) && allInB c.args (0 : Int) (5 : Int)) && (withinB c.bound (0 : Int) (4 : Int))) with g129 | g129
         ·skip
          have g129p := g129
          try simp only [Bool.not_eq_true', Bool.not_eq_false', decide_eq_true_eq, decide_eq_false_iff_not, Bool.and_eq_true, Bool.or_eq_false_iff, withinB_iff] at g129p
          refine kl_gT rfl rfl g129 (kl_mv rfl (kl_andT rfl rfl g129 ?_))
          exact J130 _ (pc 108 rfl (pc 2 rfl (pc 106 rfl pn)))
         ·skip
          refine kl_gF rfl rfl g129 (kl_andF (decide ((c.rows.length : Int) = (0 : Int))) rfl rfl g129 ?_)
          exact J130 _ (pc 108 rfl (pc 2 rfl (pc 106 rfl pn)))
        refine kl_as rfl (kl_nil (kq_code (kc_ret (kq_retP rfl rfl (congrArg Value.bool ?_)))))
        first | (exfalso; omega) | (simp [fitsB, rowsInB, *])
       ·skip
        refine kc_seq (kc_region (kl_eql rfl rfl ?_))
        refine kl_as rfl (kl_nil (kq_code (kc_if rfl (fun c131 => ?_) (fun c131 => ?_))))
        ·skip
         refine kc_seq (kc_region (kl_mv rfl (kl_mv rfl (kl_mul rfl rfl (by omega) ?_))))
         refine kl_callP rfl rfl (fits1_ok ((2 : Int) * (c.vars.length : Int)) (0 : Int) (9 : Int) c (by assumption) (by assumption) (by assumption) (by assumption)) ?_
         refine kl_mv rfl (kl_join 4 119 (.bool ((decide ((c.args.length : Int) = ((2 : Int) * (c.vars.length : Int))) && allInB c.args (0 : Int) (9 : Int)) && (withinB c.bound (0 : Int) (9 : Int)))) (pc 2 rfl (pc 5 rfl (pc 115 rfl pn))) (fun J135 => ?_) ?_)
         ·rcases Bool.eq_false_or_eq_true (decide ((c.args.length : Int) = ((2 : Int) * (c.vars.length : Int))) && allInB c.args (0 : Int) (9 : Int)) with g132 | g132
          ·skip
           have g132p := g132
           try simp only [Bool.not_eq_true', Bool.not_eq_false', decide_eq_true_eq, decide_eq_false_iff_not, Bool.and_eq_true, Bool.or_eq_false_iff, withinB_iff] at g132p
           refine kl_gT rfl rfl g132 (kl_fd rfl (by assumption) (fun p133 a134 => ?_))
           refine kl_gT rfl rfl g132 (kl_ld rfl (by assumption) (kl_gT rfl rfl g132 (kl_callP rfl rfl (within_ok c.bound (0 : Int) (9 : Int)) ?_)))
           refine kl_andT rfl rfl g132 ?_
           exact J135 _ (pc 119 rfl (pc 2 rfl (pc 5 rfl (pc 115 rfl pn))))
          ·skip
           refine kl_gF rfl rfl g132 (kl_gF rfl rfl g132 (kl_gF rfl rfl g132 (kl_andF (withinB c.bound (0 : Int) (9 : Int)) rfl rfl g132 ?_)))
           exact J135 _ (pc 119 rfl (pc 2 rfl (pc 5 rfl (pc 115 rfl pn))))
         refine kl_mv rfl (kl_join 2 122 (.bool (((decide ((c.args.length : Int) = ((2 : Int) * (c.vars.length : Int))) && allInB c.args (0 : Int) (9 : Int)) && (withinB c.bound (0 : Int) (9 : Int))) && decide ((c.rows.length : Int) = (0 : Int)))) (pc 2 rfl (pc 120 rfl pn)) (fun J137 => ?_) ?_)
         ·rcases Bool.eq_false_or_eq_true ((decide ((c.args.length : Int) = ((2 : Int) * (c.vars.length : Int))) && allInB c.args (0 : Int) (9 : Int)) && (withinB c.bound (0 : Int) (9 : Int))) with g136 | g136
          ·skip
           have g136p := g136
           try simp only [Bool.not_eq_true', Bool.not_eq_false', decide_eq_true_eq, decide_eq_false_iff_not, Bool.and_eq_true, Bool.or_eq_false_iff, withinB_iff] at g136p
           refine kl_gT rfl rfl g136 (kl_mv rfl (kl_andT rfl rfl g136 ?_))
           exact J137 _ (pc 122 rfl (pc 2 rfl (pc 120 rfl pn)))
          ·skip
           refine kl_gF rfl rfl g136 (kl_andF (decide ((c.rows.length : Int) = (0 : Int))) rfl rfl g136 ?_)
           exact J137 _ (pc 122 rfl (pc 2 rfl (pc 120 rfl pn)))
         refine kl_as rfl (kl_nil (kq_code (kc_ret (kq_retP rfl rfl (congrArg Value.bool ?_)))))
         first | (exfalso; omega) | (simp [fitsB, rowsInB, *])
        ·skip
         refine kc_seq (kc_region (kl_eql rfl rfl ?_))
         refine kl_as rfl (kl_nil (kq_code (kc_if rfl (fun c138 => ?_) (fun c138 => ?_))))
         ·skip
          refine kc_seq (kc_region (kl_fd rfl (by assumption) (fun p139 a140 => ?_)))
          refine kl_ld rfl (by assumption) (kl_len rfl (by assumption) (fun l141 => ?_))
          refine kl_sub rfl rfl (by omega) ?_
          refine kl_as rfl (kl_nil (kq_code (kc_seq (kc_region (kl_fd rfl (by assumption) (fun p142 a143 => ?_))))))
          refine kl_ld rfl (by assumption) (kl_mv rfl (kl_callP rfl rfl (rowsIn_ok c.rows (6 : Int) (-1 : Int) ((c.rows.length : Int) - (1 : Int)) (by assumption)) ?_))
          refine kl_mv rfl (kl_join 4 137 (.bool ((withinB c.rows.length 1 8 && c.rows.all fun r => decide ((r.length : Int) = (6 : Int)) && allInB r (-1 : Int) ((c.rows.length : Int) - (1 : Int))) && (distinctB c.args))) (pc 1 rfl (pc 2 rfl (pc 6 rfl (pc 7 rfl (pc 133 rfl pn))))) (fun J147 => ?_) ?_)
          ·rcases Bool.eq_false_or_eq_true (withinB c.rows.length 1 8 && c.rows.all fun r => decide ((r.length : Int) = (6 : Int)) && allInB r (-1 : Int) ((c.rows.length : Int) - (1 : Int))) with g144 | g144
           ·skip
            have g144p := g144
            try simp only [Bool.not_eq_true', Bool.not_eq_false', decide_eq_true_eq, decide_eq_false_iff_not, Bool.and_eq_true, Bool.or_eq_false_iff, withinB_iff] at g144p
            refine kl_gT rfl rfl g144 (kl_fd rfl (by assumption) (fun p145 a146 => ?_))
            refine kl_gT rfl rfl g144 (kl_ld rfl (by assumption) (kl_gT rfl rfl g144 (kl_callP rfl rfl (distinct_ok c.args (by assumption)) ?_)))
            refine kl_andT rfl rfl g144 ?_
            exact J147 _ (pc 137 rfl (pc 1 rfl (pc 2 rfl (pc 6 rfl (pc 7 rfl (pc 133 rfl pn))))))
           ·skip
            refine kl_gF rfl rfl g144 (kl_gF rfl rfl g144 (kl_gF rfl rfl g144 (kl_andF (distinctB c.args) rfl rfl g144 ?_)))
            exact J147 _ (pc 137 rfl (pc 1 rfl (pc 2 rfl (pc 6 rfl (pc 7 rfl (pc 133 rfl pn))))))
          refine kl_mv rfl (kl_join 5 143 (.bool (((withinB c.rows.length 1 8 && c.rows.all fun r => decide ((r.length : Int) = (6 : Int)) && allInB r (-1 : Int) ((c.rows.length : Int) - (1 : Int))) && (distinctB c.args)) && (allInB c.args (0 : Int) ((c.rows.length : Int) - (1 : Int))))) (pc 2 rfl (pc 6 rfl (pc 138 rfl pn))) (fun J151 => ?_) ?_)
          ·rcases Bool.eq_false_or_eq_true ((withinB c.rows.length 1 8 && c.rows.all fun r => decide ((r.length : Int) = (6 : Int)) && allInB r (-1 : Int) ((c.rows.length : Int) - (1 : Int))) && (distinctB c.args)) with g148 | g148
           ·skip
            have g148p := g148
            try simp only [Bool.not_eq_true', Bool.not_eq_false', decide_eq_true_eq, decide_eq_false_iff_not, Bool.and_eq_true, Bool.or_eq_false_iff, withinB_iff] at g148p
            refine kl_gT rfl rfl g148 (kl_fd rfl (by assumption) (fun p149 a150 => ?_))
            refine kl_gT rfl rfl g148 (kl_ld rfl (by assumption) (kl_gT rfl rfl g148 (kl_mv rfl (kl_gT rfl rfl g148 (kl_callP rfl rfl (allIn_ok c.args (0 : Int) ((c.rows.length : Int) - (1 : Int)) (by assumption)) ?_)))))
            refine kl_andT rfl rfl g148 ?_
            exact J151 _ (pc 143 rfl (pc 2 rfl (pc 6 rfl (pc 138 rfl pn))))
           ·skip
            refine kl_gF rfl rfl g148 (kl_gF rfl rfl g148 (kl_gF rfl rfl g148 (kl_gF rfl rfl g148 (kl_andF (allInB c.args (0 : Int) ((c.rows.length : Int) - (1 : Int))) rfl rfl g148 ?_))))
            exact J151 _ (pc 143 rfl (pc 2 rfl (pc 6 rfl (pc 138 rfl pn))))
          refine kl_mv rfl (kl_join 2 146 (.bool ((((withinB c.rows.length 1 8 && c.rows.all fun r => decide ((r.length : Int) = (6 : Int)) && allInB r (-1 : Int) ((c.rows.length : Int) - (1 : Int))) && (distinctB c.args)) && (allInB c.args (0 : Int) ((c.rows.length : Int) - (1 : Int)))) && decide (c.bound = (0 : Int)))) (pc 2 rfl (pc 144 rfl pn)) (fun J153 => ?_) ?_)
          ·rcases Bool.eq_false_or_eq_true (((withinB c.rows.length 1 8 && c.rows.all fun r => decide ((r.length : Int) = (6 : Int)) && allInB r (-1 : Int) ((c.rows.length : Int) - (1 : Int))) && (distinctB c.args)) && (allInB c.args (0 : Int) ((c.rows.length : Int) - (1 : Int)))) with g152 | g152
           ·skip
            have g152p := g152
            try simp only [Bool.not_eq_true', Bool.not_eq_false', decide_eq_true_eq, decide_eq_false_iff_not, Bool.and_eq_true, Bool.or_eq_false_iff, withinB_iff] at g152p
            refine kl_gT rfl rfl g152 (kl_mv rfl (kl_andT rfl rfl g152 ?_))
            exact J153 _ (pc 146 rfl (pc 2 rfl (pc 144 rfl pn)))
           ·skip
            refine kl_gF rfl rfl g152 (kl_andF (decide (c.bound = (0 : Int))) rfl rfl g152 ?_)
            exact J153 _ (pc 146 rfl (pc 2 rfl (pc 144 rfl pn)))
          refine kl_as rfl (kl_nil (kq_code (kc_ret (kq_retP rfl rfl (congrArg Value.bool ?_)))))
          first | (exfalso; omega) | (simp [fitsB, rowsInB, *])
         ·skip
          refine kc_skipQ (kq_code (kc_seq (kc_region (kl_as rfl (kl_nil (kq_code (kc_ret (kq_retP rfl rfl (congrArg Value.bool ?_)))))))))
          first | (exfalso; omega) | (simp [fitsB, rowsInB, *])
theorem validCon_ok {Hcv : Hp} {vcv : Value} {Hca : Hp} {vca : Value} {Hcr : Hp} {vcr : Value} (c : Con) (n : Int) (hn : -9223372036854775807 ≤ n ∧ n ≤ 9223372036854775807) (hcv : Ints Hcv vcv c.vars) (hca : Ints Hca vca c.args) (hcr : Rows Hcr vcr c.rows) : SpecP Tryz.prog 95 [.agg #[.int .i64 c.kind, vcv, vca, .int .i64 c.bound, vcr], .int .i64 n] [Hcv, Hca, Hcr] (.bool (validConB c n)) := by
 refine spec_of Tryz.func95 rfl rfl rfl (fun B => ?_)
 refine kc_seq (kc_region (kl_box rfl rfl (fun p1 H2 f3 a4 => ?_)))
 refine kl_as rfl (kl_nil (kq_code (kc_seq (kc_region (kl_mv rfl (kl_callP rfl rfl (within_ok n (1 : Int) (4 : Int)) ?_))))))
 refine kl_mv rfl (kl_join 6 13 (.bool ((withinB n (1 : Int) (4 : Int)) && (withinB (c.vars.length : Int) (1 : Int) n))) (pc 1 rfl (pc 2 rfl (pc 4 rfl (pc 7 rfl pn)))) (fun J9 => ?_) ?_)
 ·rcases Bool.eq_false_or_eq_true (withinB n (1 : Int) (4 : Int)) with g5 | g5
  ·skip
   have g5p := g5
   try simp only [Bool.not_eq_true', Bool.not_eq_false', decide_eq_true_eq, decide_eq_false_iff_not, Bool.and_eq_true, Bool.or_eq_false_iff, withinB_iff] at g5p
   refine kl_gT rfl rfl g5 (kl_fd rfl (by assumption) (fun p6 a7 => ?_))
   refine kl_gT rfl rfl g5 (kl_ld rfl (by assumption) (kl_gT rfl rfl g5 (kl_len rfl (by assumption) (fun l8 => ?_))))
   refine kl_gT rfl rfl g5 (kl_mv rfl (kl_gT rfl rfl g5 (kl_callP rfl rfl (within_ok (c.vars.length : Int) (1 : Int) n) ?_)))
   refine kl_andT rfl rfl g5 ?_
   exact J9 _ (pc 13 rfl (pc 1 rfl (pc 2 rfl (pc 4 rfl (pc 7 rfl pn)))))
  ·skip
   refine kl_gF rfl rfl g5 (kl_gF rfl rfl g5 (kl_gF rfl rfl g5 (kl_gF rfl rfl g5 (kl_gF rfl rfl g5 (kl_andF (withinB (c.vars.length : Int) (1 : Int) n) rfl rfl g5 ?_)))))
   exact J9 _ (pc 13 rfl (pc 1 rfl (pc 2 rfl (pc 4 rfl (pc 7 rfl pn)))))
 refine kl_mv rfl (kl_join 6 20 (.bool (((withinB n (1 : Int) (4 : Int)) && (withinB (c.vars.length : Int) (1 : Int) n)) && (allInB c.vars (0 : Int) (n - (1 : Int))))) (pc 2 rfl (pc 4 rfl (pc 14 rfl pn))) (fun J13 => ?_) ?_)
 ·rcases Bool.eq_false_or_eq_true ((withinB n (1 : Int) (4 : Int)) && (withinB (c.vars.length : Int) (1 : Int) n)) with g10 | g10
  ·skip
   have g10p := g10
   try simp only [Bool.not_eq_true', Bool.not_eq_false', decide_eq_true_eq, decide_eq_false_iff_not, Bool.and_eq_true, Bool.or_eq_false_iff, withinB_iff] at g10p
   refine kl_gT rfl rfl g10 (kl_fd rfl (by assumption) (fun p11 a12 => ?_))
   refine kl_gT rfl rfl g10 (kl_ld rfl (by assumption) (kl_gT rfl rfl g10 (kl_mv rfl (kl_gT rfl rfl g10 (kl_sub rfl rfl (by omega) ?_)))))
   refine kl_gT rfl rfl g10 (kl_callP rfl rfl (allIn_ok c.vars (0 : Int) (n - (1 : Int)) (by assumption)) ?_)
   refine kl_andT rfl rfl g10 ?_
   exact J13 _ (pc 20 rfl (pc 2 rfl (pc 4 rfl (pc 14 rfl pn))))
  ·skip
   refine kl_gF rfl rfl g10 (kl_gF rfl rfl g10 (kl_gF rfl rfl g10 (kl_gF rfl rfl g10 (kl_gF rfl rfl g10 (kl_andF (allInB c.vars (0 : Int) (n - (1 : Int))) rfl rfl g10 ?_)))))
   exact J13 _ (pc 20 rfl (pc 2 rfl (pc 4 rfl (pc 14 rfl pn))))
 refine kl_mv rfl (kl_join 4 25 (.bool ((((withinB n (1 : Int) (4 : Int)) && (withinB (c.vars.length : Int) (1 : Int) n)) && (allInB c.vars (0 : Int) (n - (1 : Int)))) && (distinctB c.vars))) (pc 2 rfl (pc 4 rfl (pc 21 rfl pn))) (fun J17 => ?_) ?_)
 ·rcases Bool.eq_false_or_eq_true (((withinB n (1 : Int) (4 : Int)) && (withinB (c.vars.length : Int) (1 : Int) n)) && (allInB c.vars (0 : Int) (n - (1 : Int)))) with g14 | g14
  ·skip
   have g14p := g14
   try simp only [Bool.not_eq_true', Bool.not_eq_false', decide_eq_true_eq, decide_eq_false_iff_not, Bool.and_eq_true, Bool.or_eq_false_iff, withinB_iff] at g14p
   refine kl_gT rfl rfl g14 (kl_fd rfl (by assumption) (fun p15 a16 => ?_))
   refine kl_gT rfl rfl g14 (kl_ld rfl (by assumption) (kl_gT rfl rfl g14 (kl_callP rfl rfl (distinct_ok c.vars (by assumption)) ?_)))
   refine kl_andT rfl rfl g14 ?_
   exact J17 _ (pc 25 rfl (pc 2 rfl (pc 4 rfl (pc 21 rfl pn))))
  ·skip
   refine kl_gF rfl rfl g14 (kl_gF rfl rfl g14 (kl_gF rfl rfl g14 (kl_andF (distinctB c.vars) rfl rfl g14 ?_)))
   exact J17 _ (pc 25 rfl (pc 2 rfl (pc 4 rfl (pc 21 rfl pn))))
 refine kl_mv rfl (kl_join 3 29 (.bool (((((withinB n (1 : Int) (4 : Int)) && (withinB (c.vars.length : Int) (1 : Int) n)) && (allInB c.vars (0 : Int) (n - (1 : Int)))) && (distinctB c.vars)) && (fitsB c))) (pc 4 rfl (pc 26 rfl pn)) (fun J19 => ?_) ?_)
 ·rcases Bool.eq_false_or_eq_true ((((withinB n (1 : Int) (4 : Int)) && (withinB (c.vars.length : Int) (1 : Int) n)) && (allInB c.vars (0 : Int) (n - (1 : Int)))) && (distinctB c.vars)) with g18 | g18
  ·skip
   have g18p := g18
   try simp only [Bool.not_eq_true', Bool.not_eq_false', decide_eq_true_eq, decide_eq_false_iff_not, Bool.and_eq_true, Bool.or_eq_false_iff, withinB_iff] at g18p
   refine kl_gT rfl rfl g18 (kl_ldS rfl (by assumption) rfl ?_)
   refine kl_gT rfl rfl g18 (kl_callP rfl rfl (fits_ok c (by assumption) (by assumption) (by assumption)) ?_)
   refine kl_andT rfl rfl g18 ?_
   exact J19 _ (pc 29 rfl (pc 4 rfl (pc 26 rfl pn)))
  ·skip
   refine kl_gF rfl rfl g18 (kl_gF rfl rfl g18 (kl_andF (fitsB c) rfl rfl g18 ?_))
   exact J19 _ (pc 29 rfl (pc 4 rfl (pc 26 rfl pn)))
 refine kl_as rfl (kl_nil (kq_code (kc_ret (kq_retP rfl rfl (congrArg Value.bool ?_)))))
 rfl
theorem validMod1_ok {Hcv : Hp} {vcv : Value} {Hca : Hp} {vca : Value} {Hcr : Hp} {vcr : Value} {Hmd : Hp} {vmd : Value} {Hmc : Hp} {vmc : Value} {Hm : Hp} {ptrm : Value} (c : Con) (m : Mod) (hcv : Ints Hcv vcv c.vars) (hca : Ints Hca vca c.args) (hcr : Rows Hcr vcr c.rows) (hmd : Ints Hmd vmd m.doms) (hmc : Cons Hmc vmc m.cons) (am : At Hm ptrm [vmd, vmc]) : SpecP Tryz.prog 94 [.agg #[.int .i64 c.kind, vcv, vca, .int .i64 c.bound, vcr], ptrm] [Hcv, Hca, Hcr, Hmd, Hmc, Hm] (.bool (!validConB c m.doms.length)) := by
 refine spec_of Tryz.func94 rfl rfl rfl (fun B => ?_)
 refine kc_seq (kc_region (kl_box rfl rfl (fun p1 H2 f3 a4 => ?_)))
 refine kl_as rfl (kl_nil (kq_code (kc_seq (kc_region (kl_ldS rfl (by assumption) rfl ?_)))))
 refine kl_fd rfl (by assumption) (fun p5 a6 => ?_)
 refine kl_ld rfl (by assumption) (kl_len rfl (by assumption) (fun l7 => ?_))
 refine kl_callP rfl rfl (validCon_ok c (m.doms.length : Int) (by first | assumption | omega) (by assumption) (by assumption) (by assumption)) ?_
 refine kl_not rfl (kl_as rfl (kl_nil (kq_code (kc_ret (kq_retP rfl rfl (congrArg Value.bool ?_))))))
 rfl
theorem ixf_con_ok {Hxs : Hp} {vxs : Value} {gp : Nat} {capsp : Array Value} {imp : List Hp} [FnC Tryz.prog gp] (xs : List Con) (p : Con → Bool) (hxs : Cons Hxs vxs xs) (hp : ∀ (Ha Hb Hr : Hp) (a b r : Value) (c : Con), c ∈ xs → Ints Ha a c.vars → Ints Hb b c.args → Rows Hr r c.rows → SpecP Tryz.prog gp (.agg #[.int .i64 c.kind, a, b, .int .i64 c.bound, r] :: capsp.toList) (Ha :: Hb :: Hr :: imp) (.bool (p c))) : SpecP Tryz.prog 136 [vxs, .func (.func gp) #[] capsp] (Hxs :: imp) (.int .i64 (indexBy p xs)) := by
 refine spec_of Tryz.func136 rfl rfl rfl (fun B => ?_)
 refine kc_seq (kc_region (kl_as rfl (kl_nil (kq_code (kc_seq (kc_seq (kc_region (kl_mv rfl (kl_len rfl (by assumption) (fun l1 => ?_))))))))))
 refine kl_mv rfl (kl_nil (kq_code (kc_block (kc_loop0 (A := Nat) (fun zz => (zz ≤ xs.length) ∧ ((xs.take zz).any p = false)) (fun zz => xs.length - zz) (fun zz => [(8, .int .i64 (zz : Int))]) (0) (pc 0 rfl (pc 1 rfl (pc 7 rfl pn))) (pc 8 rfl pn) ⟨Nat.zero_le _, by simp⟩ ?_))))
 rintro k hJ4
 obtain ⟨hk2, hi3⟩ : (k ≤ xs.length) ∧ ((xs.take k).any p = false) := hJ4
 change KC _ _ (_) _ _ ([(8, .int .i64 (k : Int))] ++ _)
 refine kc_seq (kc_region (kl_lss rfl rfl ?_))
 refine kl_nil (kq_code (kc_seq (kc_if rfl (fun c5 => ?_) (fun c5 => ?_))))
 ·skip
  refine kc_skipQ (kq_code (kc_seq (kc_block (kc_seq (kc_region (kl_mv rfl (kl_as rfl (kl_nil (kq_code (kc_seq (kc_region (kl_mv rfl ?_))))))))))))
  refine kl_mv rfl (kl_mv rfl (kl_inC rfl rfl (by assumption) (by omega) (fun p6 u8 u9 u10 h11 h12 h13 a7 => ?_)))
  refine kl_ldS rfl (by assumption) rfl ?_
  refine kl_callP rfl rfl (hp _ _ _ _ _ _ (xs.getD k nilCon) (getD_mem (by omega)) (by assumption) (by assumption) (by assumption)) ?_
  refine kl_nil (kq_code (kc_cond rfl (fun c14 => ?_) (fun c14 => ?_)))
  ·skip
   have c14r := c14
   try simp only [smpC, decide_eq_true_eq, decide_eq_false_iff_not] at c14
   refine kc_seq (kc_region (kl_mv rfl (kl_as rfl (kl_nil (kq_code (kc_ret (kq_retP rfl rfl (congrArg (Value.int .i64) ?_))))))))
   exact indexBy_hit (d := nilCon) (by omega) (by assumption) (by assumption)
  ·skip
   have c14r := c14
   try simp only [smpC, decide_eq_true_eq, decide_eq_false_iff_not] at c14
   refine kc_skipQ (kq_code (kc_region (kl_inc rfl rfl (by omega) ?_)))
   refine kl_mv rfl (kl_nil (kq_round0 ((k + 1)) (by omega) (⟨by omega, any_take_step (d := nilCon) (by omega) hi3 (by assumption)⟩) (pc 8 rfl pn) (pc 0 rfl (pc 1 rfl (pc 7 rfl pn))) (List.Sublist.refl _)))
 ·skip
  refine kc_exit (kq_code (kc_seq (kc_region (kl_as rfl (kl_nil (kq_code (kc_ret (kq_retP rfl rfl (congrArg (Value.int .i64) ?_)))))))))
  exact indexBy_none (by omega) (by assumption)
theorem cf_con_ok {Hxs : Hp} {vxs : Value} {gp : Nat} {capsp : Array Value} {imp : List Hp} [FnC Tryz.prog gp] (xs : List Con) (p : Con → Bool) (hxs : Cons Hxs vxs xs) (hp : ∀ (Ha Hb Hr : Hp) (a b r : Value) (c : Con), c ∈ xs → Ints Ha a c.vars → Ints Hb b c.args → Rows Hr r c.rows → SpecP Tryz.prog gp (.agg #[.int .i64 c.kind, a, b, .int .i64 c.bound, r] :: capsp.toList) (Ha :: Hb :: Hr :: imp) (.bool (p c))) : SpecP Tryz.prog 93 [vxs, .func (.func gp) #[] capsp] (Hxs :: imp) (.bool (xs.any p)) := by
 refine spec_of Tryz.func93 rfl rfl rfl (fun B => ?_)
 refine kc_seq (kc_region (kl_as rfl (kl_nil (kq_code (kc_seq (kc_region (kl_mv rfl (kl_mv rfl (kl_callP rfl rfl (ixf_con_ok xs p (by assumption) hp) ?_)))))))))
 refine kl_geq rfl rfl ?_
 refine kl_as rfl (kl_nil (kq_code (kc_ret (kq_retP rfl rfl (congrArg Value.bool ?_)))))
 exact indexBy_any p xs
theorem validMod_ok {Hmd : Hp} {vmd : Value} {Hmc : Hp} {vmc : Value} (m : Mod) (hmd : Ints Hmd vmd m.doms) (hmc : Cons Hmc vmc m.cons) : SpecP Tryz.prog 54 [.agg #[vmd, vmc]] [Hmd, Hmc] (.bool (validModB m)) := by
 refine spec_of Tryz.func54 rfl rfl rfl (fun B => ?_)
 refine kc_seq (kc_region (kl_box rfl rfl (fun p1 H2 f3 a4 => ?_)))
 refine kl_as rfl (kl_nil (kq_code (kc_seq (kc_region (kl_fd rfl (by assumption) (fun p5 a6 => ?_))))))
 refine kl_ld rfl (by assumption) (kl_callP rfl rfl (domainsOk_ok m.doms (by assumption)) ?_)
 refine kl_mv rfl (kl_join 5 11 (.bool ((domainsOkB m.doms) && decide ((m.cons.length : Int) ≤ (6 : Int)))) (pc 1 rfl (pc 2 rfl (pc 6 rfl pn))) (fun J11 => ?_) ?_)
 ·rcases Bool.eq_false_or_eq_true (domainsOkB m.doms) with g7 | g7
  ·skip
   have g7p := g7
   try simp only [Bool.not_eq_true', Bool.not_eq_false', decide_eq_true_eq, decide_eq_false_iff_not, Bool.and_eq_true, Bool.or_eq_false_iff, withinB_iff] at g7p
   refine kl_gT rfl rfl g7 (kl_fd rfl (by assumption) (fun p8 a9 => ?_))
   refine kl_gT rfl rfl g7 (kl_ld rfl (by assumption) (kl_gT rfl rfl g7 (kl_len rfl (by assumption) (fun l10 => ?_))))
   refine kl_gT rfl rfl g7 (kl_leq rfl rfl ?_)
   refine kl_andT rfl rfl g7 ?_
   exact J11 _ (pc 11 rfl (pc 1 rfl (pc 2 rfl (pc 6 rfl pn))))
  ·skip
   refine kl_gF rfl rfl g7 (kl_gF rfl rfl g7 (kl_gF rfl rfl g7 (kl_gF rfl rfl g7 (kl_andF (decide ((m.cons.length : Int) ≤ (6 : Int))) rfl rfl g7 ?_))))
   exact J11 _ (pc 11 rfl (pc 1 rfl (pc 2 rfl (pc 6 rfl pn))))
 refine kl_mv rfl (kl_join 6 18 (.bool (((domainsOkB m.doms) && decide ((m.cons.length : Int) ≤ (6 : Int))) && !(m.cons.any (fun x14 => !validConB x14 m.doms.length)))) (pc 2 rfl (pc 12 rfl pn)) (fun J16 => ?_) ?_)
 ·rcases Bool.eq_false_or_eq_true ((domainsOkB m.doms) && decide ((m.cons.length : Int) ≤ (6 : Int))) with g12 | g12
  ·skip
   have g12p := g12
   try simp only [Bool.not_eq_true', Bool.not_eq_false', decide_eq_true_eq, decide_eq_false_iff_not, Bool.and_eq_true, Bool.or_eq_false_iff, withinB_iff] at g12p
   refine kl_gT rfl rfl g12 (kl_fd rfl (by assumption) (fun p13 a14 => ?_))
   refine kl_gT rfl rfl g12 (kl_ld rfl (by assumption) (kl_gT rfl rfl g12 (kl_mkf rfl ?_)))
   refine kl_gT rfl rfl g12 (kl_callP rfl rfl (cf_con_ok m.cons (fun x14 => !validConB x14 m.doms.length) (by assumption) (fun _ _ _ ax14 bx14 rx14 x14 _ hax14 hbx14 hrx14 => validMod1_ok x14 m hax14 hbx14 hrx14 (by assumption) (by assumption) (by assumption))) ?_)
   refine kl_gT rfl rfl g12 (kl_not rfl (kl_andT rfl rfl g12 ?_))
   exact J16 _ (pc 18 rfl (pc 2 rfl (pc 12 rfl pn)))
  ·skip
   refine kl_gF rfl rfl g12 (kl_gF rfl rfl g12 (kl_gF rfl rfl g12 (kl_gF rfl rfl g12 (kl_gF rfl rfl g12 (kl_andF (!(m.cons.any (fun x14 => !validConB x14 m.doms.length))) rfl rfl g12 ?_)))))
   exact J16 _ (pc 18 rfl (pc 2 rfl (pc 12 rfl pn)))
 refine kl_as rfl (kl_nil (kq_code (kc_ret (kq_retP rfl rfl (congrArg Value.bool ?_)))))
 simp only [validModB, List.all_eq_not_any_not, Bool.and_assoc]; try rfl
theorem has_ok (m : Int) (i : Int) (h0 : 0 ≤ i) : SpecP Tryz.prog 143 [.int .i64 m, .int .i64 i] [] (.bool (hasB m i)) := by
 refine spec_of Tryz.func143 rfl rfl rfl (fun B => ?_)
 refine kc_seq (kc_region (kl_as rfl (kl_nil (kq_code (kc_seq (kc_region (kl_mv rfl (kl_mv rfl (kl_shr rfl rfl (by omega) ?_)))))))))
 refine kl_and rfl rfl ?_
 refine kl_eql rfl rfl ?_
 refine kl_as rfl (kl_nil (kq_code (kc_ret (kq_retP rfl rfl (congrArg Value.bool ?_)))))
 rfl
theorem clip_ok {Hxs : Hp} {vxs : Value} (xs : List Int) (hxs : Ints Hxs vxs xs) : Spec Tryz.prog 146 [vxs] [Hxs] (fun _ vq => Ints Hxs vq xs ∧ ClipV vxs vq xs.length) := by
 refine spec_of Tryz.func146 rfl rfl rfl (fun B => ?_)
 refine kc_seq (kc_region (kl_as rfl (kl_nil (kq_code (kc_seq (kc_region (kl_mv rfl (kl_mv rfl (kl_len rfl (by assumption) (fun l1 => ?_))))))))))
 refine kl_mv rfl (kl_len rfl (by assumption) (fun l2 => ?_))
 refine kl_clipV rfl rfl rfl (by assumption) (by omega) (fun u3 h4 h4v => ?_)
 refine kl_as rfl (kl_nil (kq_code (kc_ret ?_)))
 exact kq_ret rfl rfl noHp (fr_no _) ⟨by assumption, by assumption⟩
theorem szIntS_ok {Ha : Hp} {va : Value} (a : List Int) (left : Int) (hl : 0 ≤ left ∧ left ≤ 1048576) (ha : Ints Ha va a) : SpecP Tryz.prog 59 [va, .int .i64 left] [Ha] (.int .i64 (szB left a.length)) := by
 refine spec_of Tryz.func59 rfl rfl rfl (fun B => ?_)
 refine kc_seq (kc_region (kl_as rfl (kl_nil (kq_code (kc_seq (kc_region (kl_mv rfl (kl_mv rfl (kl_len rfl (by assumption) (fun l1 => ?_))))))))))
 refine kl_sub rfl rfl (by omega) ?_
 refine kl_as rfl (kl_nil (kq_code (kc_seq (kc_seq (kc_region (kl_mv rfl (kl_lss rfl rfl ?_)))))))
 refine kl_nil (kq_code (kc_if rfl (fun c2 => ?_) (fun c2 => ?_)))
 ·skip
  refine kc_seq (kc_region (kl_as rfl (kl_nil (kq_code (kc_ret (kq_retP rfl rfl (congrArg (Value.int .i64) ?_)))))))
  exact szB_neg (by omega)
 ·skip
  refine kc_skipQ (kq_code (kc_seq (kc_region (kl_mv rfl (kl_as rfl (kl_nil (kq_code (kc_ret (kq_retP rfl rfl (congrArg (Value.int .i64) ?_))))))))))
  exact szB_pos rfl (by omega)
theorem szIntSS_ok {Ha : Hp} {va : Value} (a : List (List Int)) (left : Int) (hl : 0 ≤ left ∧ left ≤ 1048576) (ha : Rows Ha va a) : SpecP Tryz.prog 149 [va, .int .i64 left] [Ha] (.int .i64 (szB left ((a.length + rsum a : Nat) : Int))) := by
 refine spec_of Tryz.func149 rfl rfl rfl (fun B => ?_)
 refine kc_seq (kc_region (kl_as rfl (kl_nil (kq_code (kc_seq (kc_region (kl_mv rfl (kl_mv rfl (kl_len rfl (by assumption) (fun l1 => ?_))))))))))
 refine kl_sub rfl rfl (by omega) ?_
 refine kl_as rfl (kl_nil (kq_code (kc_seq (kc_seq (kc_region (kl_mv rfl (kl_lss rfl rfl ?_)))))))
 refine kl_nil (kq_code (kc_if rfl (fun c2 => ?_) (fun c2 => ?_)))
 ·skip
  refine kc_seq (kc_region (kl_as rfl (kl_nil (kq_code (kc_ret (kq_retP rfl rfl (congrArg (Value.int .i64) ?_)))))))
  exact szB_neg (by omega)
 ·skip
  refine kc_skipQ (kq_code (kc_seq (kc_seq (kc_region (kl_as rfl (kl_nil (kq_code (kc_block (kc_loop0 (A := Nat × Int) (fun zz => (zz.1 ≤ a.length) ∧ (0 ≤ zz.2 ∧ zz.2 = left - ((a.length + rsum (a.take zz.1) : Nat) : Int))) (fun zz => a.length - zz.1) (fun zz => [(5, .int .i64 (zz.1 : Int)), (1, .int .i64 zz.2)]) (0, (left - (a.length : Int))) (pc 0 rfl pn) (pc 5 rfl (pc 1 rfl pn)) ⟨Nat.zero_le _, ⟨by omega, by simp [rsum]⟩⟩ ?_)))))))))
  rintro ⟨k, l⟩ hJ5
  obtain ⟨hk3, hi4⟩ : (k ≤ a.length) ∧ (0 ≤ l ∧ l = left - ((a.length + rsum (a.take k) : Nat) : Int)) := hJ5
  change KC _ _ (_) _ _ ([(5, .int .i64 (k : Int)), (1, .int .i64 l)] ++ _)
  refine kc_seq (kc_seq (kc_region (kl_mv rfl (kl_mv rfl (kl_len rfl (by assumption) (fun l6 => ?_))))))
  refine kl_lss rfl rfl ?_
  refine kl_nil (kq_code (kc_if rfl (fun c7 => ?_) (fun c7 => ?_)))
  ·skip
   refine kc_skipQ (kq_code (kc_seq (kc_block (kc_seq (kc_region (kl_mv rfl (kl_mv rfl (kl_inS rfl rfl (by assumption) (by omega) (fun p8 u10 h11 a9 => ?_)))))))))
   refine kl_ld rfl (by assumption) (kl_mv rfl (kl_callP rfl rfl (szIntS_ok (a.getD k []) l (by first | assumption | omega) (by assumption)) ?_))
   refine kl_as rfl (kl_nil (kq_code (kc_seq (kc_region (kl_mv rfl (kl_lss rfl rfl ?_))))))
   refine kl_nil (kq_code (kc_if rfl (fun c12 => ?_) (fun c12 => ?_)))
   ·skip
    have hz := szB_lt c12
    refine kc_seq (kc_region (kl_as rfl (kl_nil (kq_code (kc_ret (kq_retP rfl rfl (congrArg (Value.int .i64) ?_)))))))
    have h1 := rsum_le a (k + 1); rw [rsum_step (by omega)] at h1; exact szB_neg (by omega)
   ·skip
    have hz := szB_ok c12
    refine kc_skipQ (kq_code (kc_region (kl_mv rfl (kl_inc rfl rfl (by omega) ?_))))
    refine kl_as rfl (kl_nil (kq_round0 ((k + 1), (szB l (a.getD k []).length)) (by omega) (⟨by omega, (by rw [rsum_step (by omega)]; omega)⟩) (pc 5 rfl (pc 1 rfl pn)) (pc 0 rfl pn) (List.Sublist.refl _)))
  ·skip
   refine kc_exit (kq_code (kc_seq (kc_region (kl_mv rfl (kl_as rfl (kl_nil (kq_code (kc_ret (kq_retP rfl rfl (congrArg (Value.int .i64) ?_))))))))))
   rw [List.take_of_length_le (by omega)] at *; exact szB_pos (by omega) (by omega)
theorem szConstraint_ok {Hcv : Hp} {vcv : Value} {Hca : Hp} {vca : Value} {Hcr : Hp} {vcr : Value} (c : Con) (left : Int) (hl : 0 ≤ left ∧ left ≤ 1048576) (hcv : Ints Hcv vcv c.vars) (hca : Ints Hca vca c.args) (hcr : Rows Hcr vcr c.rows) : SpecP Tryz.prog 101 [.agg #[.int .i64 c.kind, vcv, vca, .int .i64 c.bound, vcr], .int .i64 left] [Hcv, Hca, Hcr] (.int .i64 (szB left (conN c : Nat))) := by
 have hc : conN c = c.vars.length + c.args.length + (c.rows.length + rsum c.rows) := rfl
 refine spec_of Tryz.func101 rfl rfl rfl (fun B => ?_)
 refine kc_seq (kc_region (kl_box rfl rfl (fun p1 H2 f3 a4 => ?_)))
 refine kl_as rfl (kl_nil (kq_code (kc_seq (kc_region (kl_fd rfl (by assumption) (fun p5 a6 => ?_))))))
 refine kl_ld rfl (by assumption) (kl_mv rfl (kl_callP rfl rfl (szIntS_ok c.vars left (by first | assumption | omega) (by assumption)) ?_))
 refine kl_as rfl (kl_nil (kq_code (kc_seq (kc_seq (kc_region (kl_mv rfl (kl_lss rfl rfl ?_)))))))
 refine kl_nil (kq_code (kc_if rfl (fun c7 => ?_) (fun c7 => ?_)))
 ·skip
  have hzc7 := szB_lt c7
  refine kc_seq (kc_region (kl_as rfl (kl_nil (kq_code (kc_ret (kq_retP rfl rfl (congrArg (Value.int .i64) ?_)))))))
  exact szB_neg (by omega)
 ·skip
  have hzc7 := szB_ok c7
  refine kc_skipQ (kq_code (kc_seq (kc_region (kl_fd rfl (by assumption) (fun p8 a9 => ?_)))))
  refine kl_ld rfl (by assumption) (kl_mv rfl (kl_callP rfl rfl (szIntS_ok c.args (szB left c.vars.length) (by first | assumption | omega) (by assumption)) ?_))
  refine kl_as rfl (kl_nil (kq_code (kc_seq (kc_seq (kc_region (kl_mv rfl (kl_lss rfl rfl ?_)))))))
  refine kl_nil (kq_code (kc_if rfl (fun c10 => ?_) (fun c10 => ?_)))
  ·skip
   have hzc10 := szB_lt c10
   refine kc_seq (kc_region (kl_as rfl (kl_nil (kq_code (kc_ret (kq_retP rfl rfl (congrArg (Value.int .i64) ?_)))))))
   exact szB_neg (by omega)
  ·skip
   have hzc10 := szB_ok c10
   refine kc_skipQ (kq_code (kc_seq (kc_region (kl_fd rfl (by assumption) (fun p11 a12 => ?_)))))
   refine kl_ld rfl (by assumption) (kl_mv rfl (kl_callP rfl rfl (szIntSS_ok c.rows (szB (szB left c.vars.length) c.args.length) (by first | assumption | omega) (by assumption)) ?_))
   refine kl_as rfl (kl_nil (kq_code (kc_seq (kc_seq (kc_region (kl_mv rfl (kl_lss rfl rfl ?_)))))))
   refine kl_nil (kq_code (kc_if rfl (fun c13 => ?_) (fun c13 => ?_)))
   ·skip
    have hzc13 := szB_lt c13
    refine kc_seq (kc_region (kl_as rfl (kl_nil (kq_code (kc_ret (kq_retP rfl rfl (congrArg (Value.int .i64) ?_)))))))
    exact szB_neg (by omega)
   ·skip
    have hzc13 := szB_ok c13
    refine kc_skipQ (kq_code (kc_seq (kc_region (kl_mv rfl (kl_as rfl (kl_nil (kq_code (kc_ret (kq_retP rfl rfl (congrArg (Value.int .i64) ?_))))))))))
    exact szB_pos (by omega) (by omega)
theorem szConstraintS_ok {Ha : Hp} {va : Value} (a : List Con) (left : Int) (hl : 0 ≤ left ∧ left ≤ 1048576) (ha : Cons Ha va a) : SpecP Tryz.prog 60 [va, .int .i64 left] [Ha] (.int .i64 (szB left ((a.length + csum a : Nat) : Int))) := by
 refine spec_of Tryz.func60 rfl rfl rfl (fun B => ?_)
 refine kc_seq (kc_region (kl_as rfl (kl_nil (kq_code (kc_seq (kc_region (kl_mv rfl (kl_mv rfl (kl_len rfl (by assumption) (fun l1 => ?_))))))))))
 refine kl_sub rfl rfl (by omega) ?_
 refine kl_as rfl (kl_nil (kq_code (kc_seq (kc_seq (kc_region (kl_mv rfl (kl_lss rfl rfl ?_)))))))
 refine kl_nil (kq_code (kc_if rfl (fun c2 => ?_) (fun c2 => ?_)))
 ·skip
  refine kc_seq (kc_region (kl_as rfl (kl_nil (kq_code (kc_ret (kq_retP rfl rfl (congrArg (Value.int .i64) ?_)))))))
  exact szB_neg (by omega)
 ·skip
  refine kc_skipQ (kq_code (kc_seq (kc_seq (kc_region (kl_as rfl (kl_nil (kq_code (kc_block (kc_loop0 (A := Nat × Int) (fun zz => (zz.1 ≤ a.length) ∧ (0 ≤ zz.2 ∧ zz.2 = left - ((a.length + csum (a.take zz.1) : Nat) : Int))) (fun zz => a.length - zz.1) (fun zz => [(5, .int .i64 (zz.1 : Int)), (1, .int .i64 zz.2)]) (0, (left - (a.length : Int))) (pc 0 rfl pn) (pc 5 rfl (pc 1 rfl pn)) ⟨Nat.zero_le _, ⟨by omega, by simp [csum]⟩⟩ ?_)))))))))
  rintro ⟨k, l⟩ hJ5
  obtain ⟨hk3, hi4⟩ : (k ≤ a.length) ∧ (0 ≤ l ∧ l = left - ((a.length + csum (a.take k) : Nat) : Int)) := hJ5
  change KC _ _ (_) _ _ ([(5, .int .i64 (k : Int)), (1, .int .i64 l)] ++ _)
  refine kc_seq (kc_seq (kc_region (kl_mv rfl (kl_mv rfl (kl_len rfl (by assumption) (fun l6 => ?_))))))
  refine kl_lss rfl rfl ?_
  refine kl_nil (kq_code (kc_if rfl (fun c7 => ?_) (fun c7 => ?_)))
  ·skip
   refine kc_skipQ (kq_code (kc_seq (kc_block (kc_seq (kc_region (kl_mv rfl (kl_mv rfl (kl_inC rfl rfl (by assumption) (by omega) (fun p8 u10 u11 u12 h13 h14 h15 a9 => ?_)))))))))
   refine kl_ldS rfl (by assumption) rfl ?_
   refine kl_mv rfl (kl_callP rfl rfl (szConstraint_ok (a.getD k nilCon) l (by first | assumption | omega) (by assumption) (by assumption) (by assumption)) ?_)
   refine kl_as rfl (kl_nil (kq_code (kc_seq (kc_region (kl_mv rfl (kl_lss rfl rfl ?_))))))
   refine kl_nil (kq_code (kc_if rfl (fun c16 => ?_) (fun c16 => ?_)))
   ·skip
    have hz := szB_lt c16
    refine kc_seq (kc_region (kl_as rfl (kl_nil (kq_code (kc_ret (kq_retP rfl rfl (congrArg (Value.int .i64) ?_)))))))
    have h1 := csum_le a (k + 1); rw [csum_step (by omega)] at h1; exact szB_neg (by omega)
   ·skip
    have hz := szB_ok c16
    refine kc_skipQ (kq_code (kc_region (kl_mv rfl (kl_inc rfl rfl (by omega) ?_))))
    refine kl_as rfl (kl_nil (kq_round0 ((k + 1), (szB l (conN (a.getD k nilCon) : Nat))) (by omega) (⟨by omega, (by rw [csum_step (by omega)]; omega)⟩) (pc 5 rfl (pc 1 rfl pn)) (pc 0 rfl pn) (List.Sublist.refl _)))
  ·skip
   refine kc_exit (kq_code (kc_seq (kc_region (kl_mv rfl (kl_as rfl (kl_nil (kq_code (kc_ret (kq_retP rfl rfl (congrArg (Value.int .i64) ?_))))))))))
   rw [List.take_of_length_le (by omega)] at *; exact szB_pos (by omega) (by omega)
theorem szModel_ok {Hmd : Hp} {vmd : Value} {Hmc : Hp} {vmc : Value} (m : Mod) (left : Int) (hl : 0 ≤ left ∧ left ≤ 1048576) (hmd : Ints Hmd vmd m.doms) (hmc : Cons Hmc vmc m.cons) : SpecP Tryz.prog 19 [.agg #[vmd, vmc], .int .i64 left] [Hmd, Hmc] (.int .i64 (szB left (modN m : Nat))) := by
 have hc : modN m = m.doms.length + (m.cons.length + csum m.cons) := rfl
 refine spec_of Tryz.func19 rfl rfl rfl (fun B => ?_)
 refine kc_seq (kc_region (kl_box rfl rfl (fun p1 H2 f3 a4 => ?_)))
 refine kl_as rfl (kl_nil (kq_code (kc_seq (kc_region (kl_fd rfl (by assumption) (fun p5 a6 => ?_))))))
 refine kl_ld rfl (by assumption) (kl_mv rfl (kl_callP rfl rfl (szIntS_ok m.doms left (by first | assumption | omega) (by assumption)) ?_))
 refine kl_as rfl (kl_nil (kq_code (kc_seq (kc_seq (kc_region (kl_mv rfl (kl_lss rfl rfl ?_)))))))
 refine kl_nil (kq_code (kc_if rfl (fun c7 => ?_) (fun c7 => ?_)))
 ·skip
  have hzc7 := szB_lt c7
  refine kc_seq (kc_region (kl_as rfl (kl_nil (kq_code (kc_ret (kq_retP rfl rfl (congrArg (Value.int .i64) ?_)))))))
  exact szB_neg (by omega)
 ·skip
  have hzc7 := szB_ok c7
  refine kc_skipQ (kq_code (kc_seq (kc_region (kl_fd rfl (by assumption) (fun p8 a9 => ?_)))))
  refine kl_ld rfl (by assumption) (kl_mv rfl (kl_callP rfl rfl (szConstraintS_ok m.cons (szB left m.doms.length) (by first | assumption | omega) (by assumption)) ?_))
  refine kl_as rfl (kl_nil (kq_code (kc_seq (kc_seq (kc_region (kl_mv rfl (kl_lss rfl rfl ?_)))))))
  refine kl_nil (kq_code (kc_if rfl (fun c10 => ?_) (fun c10 => ?_)))
  ·skip
   have hzc10 := szB_lt c10
   refine kc_seq (kc_region (kl_as rfl (kl_nil (kq_code (kc_ret (kq_retP rfl rfl (congrArg (Value.int .i64) ?_)))))))
   exact szB_neg (by omega)
  ·skip
   have hzc10 := szB_ok c10
   refine kc_skipQ (kq_code (kc_seq (kc_region (kl_mv rfl (kl_as rfl (kl_nil (kq_code (kc_ret (kq_retP rfl rfl (congrArg (Value.int .i64) ?_))))))))))
   exact szB_pos (by omega) (by omega)
theorem toIntS_ok {Ha : Hp} {va : Value} (a : List Int) (hb : a.length ≤ 1048576) (ha : Ints Ha va a) : Spec Tryz.prog 21 [va] [Ha] (fun Hq vq => Ints Hq vq a) := by
 refine spec_of Tryz.func21 rfl rfl rfl (fun B => ?_)
 refine kc_seq (kc_region (kl_as rfl (kl_nil (kq_code (kc_seq (kc_region (kl_mv rfl (kl_len rfl (by assumption) (fun l1 => ?_)))))))))
 refine kl_mkL (R := IntV) (0 : Int) rfl rfl (by omega) (by decide) (by exact rfl) (fun v2 H3 f4 o5 => ?_)
 refine kl_as rfl (kl_nil (kq_code (kc_seq (kc_seq (kc_region (kl_as rfl (kl_nil (kq_code (kc_block (kc_loopL (A := Nat × Hp) (fun zz => (zz.1 ≤ a.length) ∧ OwnL 3 1 zz.2 noHp IntV v2 (a.take zz.1 ++ List.replicate (a.length - zz.1) (0 : Int)) ∧ Fr B zz.2) (fun zz => a.length - zz.1) (fun zz => [zz.2]) (fun zz => [(4, .int .i64 (zz.1 : Int))]) (0, H3) (pc 0 rfl (pc 2 rfl (pc 3 rfl pn))) (pc 4 rfl pn) rfl ⟨Nat.zero_le _, (OwnL.cast (by simp : (List.replicate a.length (0 : Int)) = (a.take 0 ++ List.replicate (a.length - 0) (0 : Int))) o5), f4⟩ ?_))))))))))
 rintro ⟨k, H8⟩ hJ11
 obtain ⟨hk6, o9, f10⟩ : (k ≤ a.length) ∧ OwnL 3 1 H8 noHp IntV v2 (a.take k ++ List.replicate (a.length - k) (0 : Int)) ∧ Fr B H8 := hJ11
 change KC _ _ (_) [H8] _ ([(4, .int .i64 (k : Int))] ++ _)
 refine kc_seq (kc_seq (kc_region (kl_mv rfl (kl_mv rfl (kl_len rfl (by assumption) (fun l12 => ?_))))))
 refine kl_lss rfl rfl ?_
 refine kl_nil (kq_code (kc_if rfl (fun c13 => ?_) (fun c13 => ?_)))
 ·skip
  refine kc_skipQ (kq_code (kc_seq (kc_block (kc_region (kl_mv rfl (kl_mv rfl (kl_mv rfl (kl_mv rfl ?_))))))))
  refine kl_inI rfl rfl (by assumption) (by first | omega | (simp only [List.length_append, List.length_take, List.length_replicate]; omega)) (fun p14 a15 => ?_)
  refine kl_ld rfl (by assumption) (kl_ixLn rfl rfl (by assumption) (by first | omega | (simp only [List.length_append, List.length_take, List.length_replicate]; omega)) (fun p16 q17 => ?_))
  refine kl_stL (a.getD k 0) rfl rfl (by assumption) o9 (by first | omega | (simp only [List.length_append, List.length_take, List.length_replicate]; omega)) rfl rfl rfl (fun H18 o19 f20 => ?_)
  have f21 := f20 _ f10
  refine kl_nil (kq_code (kc_region (kl_mv rfl (kl_inc rfl rfl (by omega) ?_))))
  refine kl_as rfl (kl_nil (kq_roundL ((k + 1), H18) (by omega) (⟨by omega, (OwnL.cast (by exact fill_step (0 : Int) (by omega) : ((a.take k ++ List.replicate (a.length - k) (0 : Int)).set k (a.getD k 0)) = (a.take (k + 1) ++ List.replicate (a.length - (k + 1)) (0 : Int))) o19), f21⟩) (pc 4 rfl pn) (pc 0 rfl (pc 2 rfl (pc 3 rfl pn))) rfl (List.Sublist.refl _)))
 ·skip
  refine kc_exit (kq_code (kc_seq (kc_region (kl_mv rfl (kl_as rfl (kl_nil (kq_code (kc_ret ?_))))))))
  have e9 : (a.take k ++ List.replicate (a.length - k) (0 : Int)) = a := by exact fill_end (by omega)
  exact kq_ret rfl rfl H8 f10 (e9 ▸ OwnL.ints o9)
theorem toIntSS_ok {Ha : Hp} {va : Value} (a : List (List Int)) (hb : a.length ≤ 1048576) (hb2 : ∀ r ∈ a, r.length ≤ 1048576) (ha : Rows Ha va a) : Spec Tryz.prog 150 [va] [Ha] (fun Hq vq => Rows Hq vq a) := by
 refine spec_of Tryz.func150 rfl rfl rfl (fun B => ?_)
 refine kc_seq (kc_region (kl_as rfl (kl_nil (kq_code (kc_seq (kc_region (kl_mv rfl (kl_len rfl (by assumption) (fun l1 => ?_)))))))))
 refine kl_mkL (R := RowV) ([] : List Int) rfl rfl (by omega) (by decide) (by exact ⟨_, rfl, Sl.nil⟩) (fun v2 H3 f4 o5 => ?_)
 refine kl_as rfl (kl_nil (kq_code (kc_seq (kc_seq (kc_region (kl_as rfl (kl_nil (kq_code (kc_block (kc_loopK (A := Nat × Hp × Hp) (fun zz => (zz.1 ≤ a.length) ∧ Fr B zz.2.2 ∧ OwnL 23 1 zz.2.1 zz.2.2 RowV v2 (a.take zz.1 ++ List.replicate (a.length - zz.1) ([] : List Int)) ∧ Fr B zz.2.1) (fun zz => a.length - zz.1) (fun zz => zz.2.2) (fun zz => [zz.2.1]) (fun zz => [(4, .int .i64 (zz.1 : Int))]) (0, H3, noHp) (pc 0 rfl (pc 2 rfl (pc 3 rfl pn))) (pc 4 rfl pn) rfl ⟨Nat.zero_le _, (fr_no _), (OwnL.cast (by simp : (List.replicate a.length ([] : List Int)) = (a.take 0 ++ List.replicate (a.length - 0) ([] : List Int))) o5), f4⟩ ?_))))))))))
 rintro ⟨k, H8, K11⟩ hJ13
 obtain ⟨hk6, f12, o9, f10⟩ : (k ≤ a.length) ∧ Fr B K11 ∧ OwnL 23 1 H8 K11 RowV v2 (a.take k ++ List.replicate (a.length - k) ([] : List Int)) ∧ Fr B H8 := hJ13
 change KC _ _ (K11 :: _) [H8] _ ([(4, .int .i64 (k : Int))] ++ _)
 refine kc_seq (kc_seq (kc_region (kl_mv rfl (kl_mv rfl (kl_len rfl (by assumption) (fun l14 => ?_))))))
 refine kl_lss rfl rfl ?_
 refine kl_nil (kq_code (kc_if rfl (fun c15 => ?_) (fun c15 => ?_)))
 ·skip
  refine kc_skipQ (kq_code (kc_seq (kc_block (kc_region (kl_mv rfl (kl_mv rfl (kl_mv rfl (kl_mv rfl ?_))))))))
  refine kl_inS rfl rfl (by assumption) (by first | omega | (simp only [List.length_append, List.length_take, List.length_replicate]; omega)) (fun p16 u18 h19 a17 => ?_)
  refine kl_ld rfl (by assumption) (kl_call rfl rfl (toIntS_ok (a.getD k []) (hb2 _ (getD_mem (by omega))) (by assumption)) (fun v20 H21 f22 h23 => ?_))
  refine kl_ixLn rfl rfl (by assumption) (by first | omega | (simp only [List.length_append, List.length_take, List.length_replicate]; omega)) (fun p24 q25 => ?_)
  refine kl_cmp K11 H21 (fun c30 => ?_)
  have o31 := OwnL.mono (K' := orHp K11 H21) o9 orL
  refine kl_stL (a.getD k []) rfl rfl (by assumption) o31 (by first | omega | (simp only [List.length_append, List.length_take, List.length_replicate]; omega)) ⟨_, rfl, Sl.mono (by assumption) (orC c30) (fun _ _ h => h)⟩ (Sl.oneCell (by assumption)) (Sl.cells (by assumption)) (fun H26 o27 f28 => ?_)
  have f29 := f28 _ f10
  refine kl_nil (kq_code (kc_region (kl_mv rfl (kl_inc rfl rfl (by omega) ?_))))
  refine kl_as rfl (kl_nil (kq_roundK ((k + 1), H26, (orHp K11 H21)) (by omega) (⟨by omega, (fr_or f12 f22), (OwnL.cast (by exact fill_step ([] : List Int) (by omega) : ((a.take k ++ List.replicate (a.length - k) ([] : List Int)).set k (a.getD k [])) = (a.take (k + 1) ++ List.replicate (a.length - (k + 1)) ([] : List Int))) o27), f29⟩) (pc 4 rfl pn) (pc 0 rfl (pc 2 rfl (pc 3 rfl pn))) rfl (List.Sublist.refl _)))
 ·skip
  refine kc_exit (kq_code (kc_seq (kc_region (kl_mv rfl (kl_as rfl (kl_nil (kq_code (kc_ret (kq_cmp H8 K11 (fun c32 => ?_))))))))))
  have e9 : (a.take k ++ List.replicate (a.length - k) ([] : List Int)) = a := by exact fill_end (by omega)
  exact kq_ret rfl rfl (orHp H8 K11) (fr_or f10 f12) (e9 ▸ OwnL.rowsK o9 c32)
theorem toConstraint_ok {Hcv : Hp} {vcv : Value} {Hca : Hp} {vca : Value} {Hcr : Hp} {vcr : Value} (c : Con) (hs : SmallC c) (hcv : Ints Hcv vcv c.vars) (hca : Ints Hca vca c.args) (hcr : Rows Hcr vcr c.rows) : Spec Tryz.prog 102 [.agg #[.int .i64 c.kind, vcv, vca, .int .i64 c.bound, vcr]] [Hcv, Hca, Hcr] (fun Hq vq => ConR Hq vq c) := by
 refine spec_of Tryz.func102 rfl rfl rfl (fun B => ?_)
 refine kc_seq (kc_region (kl_box rfl rfl (fun p1 H2 f3 a4 => ?_)))
 refine kl_alloc (cs := [.int .i64 (0 : Int), .slice none 0 0, .slice none 0 0, .int .i64 (0 : Int), .slice none 0 0]) rfl (fun b5 hb6 => ?_)
 refine kl_nil (kq_code (kc_seq (kc_region (kl_alloc (cs := [.int .i64 (0 : Int), .slice none 0 0, .slice none 0 0, .int .i64 (0 : Int), .slice none 0 0]) rfl (fun b7 hb8 => ?_)))))
 refine kl_nil (kq_code (kc_seq (kc_region (kl_fd rfl (by assumption) (fun p9 a10 => ?_)))))
 refine kl_ld rfl (by assumption) (kl_fdV rfl (kl_stB rfl rfl rfl rfl rfl ?_))
 refine kl_nil (kq_code (kc_seq (kc_region (kl_fd rfl (by assumption) (fun p11 a12 => ?_)))))
 refine kl_ld rfl (by assumption) (kl_call rfl rfl (toIntS_ok c.vars hs.vars (by assumption)) (fun v13 H14 f15 h16 => ?_))
 refine kl_fdV rfl (kl_stB rfl rfl rfl (Sl.oneCell (by assumption)) (Sl.cells (by assumption)) ?_)
 refine kl_nil (kq_code (kc_seq (kc_region (kl_fd rfl (by assumption) (fun p17 a18 => ?_)))))
 refine kl_ld rfl (by assumption) (kl_call rfl rfl (toIntS_ok c.args hs.args (by assumption)) (fun v19 H20 f21 h22 => ?_))
 refine kl_fdV rfl (kl_stB rfl rfl rfl (Sl.oneCell (by assumption)) (Sl.cells (by assumption)) ?_)
 refine kl_nil (kq_code (kc_seq (kc_region (kl_fd rfl (by assumption) (fun p23 a24 => ?_)))))
 refine kl_ld rfl (by assumption) (kl_fdV rfl (kl_stB rfl rfl rfl rfl rfl ?_))
 refine kl_nil (kq_code (kc_seq (kc_region (kl_fd rfl (by assumption) (fun p25 a26 => ?_)))))
 refine kl_ld rfl (by assumption) (kl_call rfl rfl (toIntSS_ok c.rows hs.rows hs.row (by assumption)) (fun v27 H28 f29 h30 => ?_))
 refine kl_fdV rfl (kl_stB rfl rfl rfl (Sl.oneCell (by assumption)) (Sl.cells (by assumption)) ?_)
 refine kl_nil (kq_code (kc_seq (kc_region (kl_ldW rfl rfl (kl_stW (us := [.int .i64 c.kind, v13, v19, .int .i64 c.bound, v27]) rfl rfl rfl rfl (oc rfl (oc (Sl.oneCell (by assumption)) (oc (Sl.oneCell (by assumption)) (oc rfl (oc (Sl.oneCell (by assumption)) oc_nil))))) rfl ?_)))))
 refine kl_nil (kq_code (kc_ret (kq_cmp H14 (orHp H20 H28) (fun c31 => ?_))))
 refine kq_cmp H20 H28 (fun c32 => ?_)
 exact kq_retC rfl rfl rfl (orHp H14 (orHp H20 H28)) (fr_or f15 (fr_or f21 f29)) ⟨_, rfl, _, _, _, rfl, Sl.mono (by assumption) orL (fun _ _ h => h), Sl.mono (by assumption) (fun b o h => orC c31 b o (orL b o h)) (fun _ _ h => h), Rows.mono' (by assumption) (fun b o h => orC c31 b o (orC c32 b o h))⟩
theorem toConstraintS_ok {Ha : Hp} {va : Value} (a : List Con) (hb : a.length ≤ 1048576) (hb2 : ∀ c ∈ a, SmallC c) (ha : Cons Ha va a) : Spec Tryz.prog 61 [va] [Ha] (fun Hq vq => Cons Hq vq a) := by
 refine spec_of Tryz.func61 rfl rfl rfl (fun B => ?_)
 refine kc_seq (kc_region (kl_as rfl (kl_nil (kq_code (kc_seq (kc_region (kl_mv rfl (kl_len rfl (by assumption) (fun l1 => ?_)))))))))
 refine kl_mkL (R := ConV) nilCon rfl rfl (by omega) (by decide) (by exact ⟨_, _, _, rfl, Sl.nil, Sl.nil, Sl.nil⟩) (fun v2 H3 f4 o5 => ?_)
 refine kl_as rfl (kl_nil (kq_code (kc_seq (kc_seq (kc_region (kl_as rfl (kl_nil (kq_code (kc_block (kc_loopK (A := Nat × Hp × Hp) (fun zz => (zz.1 ≤ a.length) ∧ Fr B zz.2.2 ∧ OwnL 95 5 zz.2.1 zz.2.2 ConV v2 (a.take zz.1 ++ List.replicate (a.length - zz.1) nilCon) ∧ Fr B zz.2.1) (fun zz => a.length - zz.1) (fun zz => zz.2.2) (fun zz => [zz.2.1]) (fun zz => [(4, .int .i64 (zz.1 : Int))]) (0, H3, noHp) (pc 0 rfl (pc 2 rfl (pc 3 rfl pn))) (pc 4 rfl pn) rfl ⟨Nat.zero_le _, (fr_no _), (OwnL.cast (by simp : (List.replicate a.length nilCon) = (a.take 0 ++ List.replicate (a.length - 0) nilCon)) o5), f4⟩ ?_))))))))))
 rintro ⟨k, H8, K11⟩ hJ13
 obtain ⟨hk6, f12, o9, f10⟩ : (k ≤ a.length) ∧ Fr B K11 ∧ OwnL 95 5 H8 K11 ConV v2 (a.take k ++ List.replicate (a.length - k) nilCon) ∧ Fr B H8 := hJ13
 change KC _ _ (K11 :: _) [H8] _ ([(4, .int .i64 (k : Int))] ++ _)
 refine kc_seq (kc_seq (kc_region (kl_mv rfl (kl_mv rfl (kl_len rfl (by assumption) (fun l14 => ?_))))))
 refine kl_lss rfl rfl ?_
 refine kl_nil (kq_code (kc_if rfl (fun c15 => ?_) (fun c15 => ?_)))
 ·skip
  refine kc_skipQ (kq_code (kc_seq (kc_block (kc_region (kl_mv rfl (kl_mv rfl (kl_mv rfl (kl_mv rfl ?_))))))))
  refine kl_inC rfl rfl (by assumption) (by first | omega | (simp only [List.length_append, List.length_take, List.length_replicate]; omega)) (fun p16 u18 u19 u20 h21 h22 h23 a17 => ?_)
  refine kl_ldS rfl (by assumption) rfl ?_
  refine kl_call rfl rfl (toConstraint_ok (a.getD k nilCon) (hb2 _ (getD_mem (by omega))) (by assumption) (by assumption) (by assumption)) (fun v24 H25 f26 h27 => ?_)
  obtain ⟨_, rfl, h31⟩ := h27
  have h31' := h31
  obtain ⟨u28, u29, u30, rfl, h32, h33, h34⟩ := h31
  refine kl_ixLn rfl rfl (by assumption) (by first | omega | (simp only [List.length_append, List.length_take, List.length_replicate]; omega)) (fun p35 q36 => ?_)
  refine kl_cmp K11 H25 (fun c41 => ?_)
  have o42 := OwnL.mono (K' := orHp K11 H25) o9 orL
  refine kl_stLk (us := [.int .i64 ((a.getD k nilCon).kind), u28, u29, .int .i64 ((a.getD k nilCon).bound), u30]) (a.getD k nilCon) rfl rfl (by assumption) o42 (by first | omega | (simp only [List.length_append, List.length_take, List.length_replicate]; omega)) (RMono.mono (orC c41) (by assumption)) rfl (oc rfl (oc (Sl.oneCell (by assumption)) (oc (Sl.oneCell (by assumption)) (oc rfl (oc (Sl.oneCell (by assumption)) oc_nil))))) rfl (fun H37 o38 f39 => ?_)
  have f40 := f39 _ f10
  refine kl_nil (kq_code (kc_region (kl_mv rfl (kl_inc rfl rfl (by omega) ?_))))
  refine kl_as rfl (kl_nil (kq_roundK ((k + 1), H37, (orHp K11 H25)) (by omega) (⟨by omega, (fr_or f12 f26), (OwnL.cast (by exact fill_step nilCon (by omega) : ((a.take k ++ List.replicate (a.length - k) nilCon).set k (a.getD k nilCon)) = (a.take (k + 1) ++ List.replicate (a.length - (k + 1)) nilCon)) o38), f40⟩) (pc 4 rfl pn) (pc 0 rfl (pc 2 rfl (pc 3 rfl pn))) rfl (List.Sublist.refl _)))
 ·skip
  refine kc_exit (kq_code (kc_seq (kc_region (kl_mv rfl (kl_as rfl (kl_nil (kq_code (kc_ret (kq_cmp H8 K11 (fun c43 => ?_))))))))))
  have e9 : (a.take k ++ List.replicate (a.length - k) nilCon) = a := by exact fill_end (by omega)
  exact kq_ret rfl rfl (orHp H8 K11) (fr_or f10 f12) (e9 ▸ OwnL.consK o9 c43)
theorem toModel_ok {Hmd : Hp} {vmd : Value} {Hmc : Hp} {vmc : Value} (m : Mod) (hs : SmallM m) (hmd : Ints Hmd vmd m.doms) (hmc : Cons Hmc vmc m.cons) : Spec Tryz.prog 20 [.agg #[vmd, vmc]] [Hmd, Hmc] (fun Hq vq => ModR Hq vq m) := by
 refine spec_of Tryz.func20 rfl rfl rfl (fun B => ?_)
 refine kc_seq (kc_region (kl_box rfl rfl (fun p1 H2 f3 a4 => ?_)))
 refine kl_alloc (cs := [.slice none 0 0, .slice none 0 0]) rfl (fun b5 hb6 => ?_)
 refine kl_nil (kq_code (kc_seq (kc_region (kl_alloc (cs := [.slice none 0 0, .slice none 0 0]) rfl (fun b7 hb8 => ?_)))))
 refine kl_nil (kq_code (kc_seq (kc_region (kl_fd rfl (by assumption) (fun p9 a10 => ?_)))))
 refine kl_ld rfl (by assumption) (kl_call rfl rfl (toIntS_ok m.doms hs.doms (by assumption)) (fun v11 H12 f13 h14 => ?_))
 refine kl_fdV rfl (kl_stB rfl rfl rfl (Sl.oneCell (by assumption)) (Sl.cells (by assumption)) ?_)
 refine kl_nil (kq_code (kc_seq (kc_region (kl_fd rfl (by assumption) (fun p15 a16 => ?_)))))
 refine kl_ld rfl (by assumption) (kl_call rfl rfl (toConstraintS_ok m.cons hs.cons hs.con (by assumption)) (fun v17 H18 f19 h20 => ?_))
 refine kl_fdV rfl (kl_stB rfl rfl rfl (Sl.oneCell (by assumption)) (Sl.cells (by assumption)) ?_)
 refine kl_nil (kq_code (kc_seq (kc_region (kl_ldW rfl rfl (kl_stW (us := [v11, v17]) rfl rfl rfl rfl (oc (Sl.oneCell (by assumption)) (oc (Sl.oneCell (by assumption)) oc_nil)) rfl ?_)))))
 refine kl_nil (kq_code (kc_ret (kq_cmp H12 H18 (fun c21 => ?_))))
 exact kq_retC rfl rfl rfl (orHp H12 H18) (fr_or f13 f19) ⟨_, _, rfl, Sl.mono (by assumption) orL (fun _ _ h => h), Cons.mono' (by assumption) (orC c21)⟩
theorem eqIntS_ok {Ha : Hp} {va : Value} {Hb : Hp} {vb : Value} (a : List Int) (b : List Int) (ha : Ints Ha va a) (hb : Ints Hb vb b) : SpecP Tryz.prog 24 [va, vb] [Ha, Hb] (.bool (decide (a = b))) := by
 refine spec_of Tryz.func24 rfl rfl rfl (fun B => ?_)
 refine kc_seq (kc_region (kl_as rfl (kl_nil (kq_code (kc_seq (kc_seq (kc_region (kl_mv rfl (kl_len rfl (by assumption) (fun l1 => ?_))))))))))
 refine kl_mv rfl (kl_len rfl (by assumption) (fun l2 => ?_))
 refine kl_neq rfl rfl ?_
 refine kl_nil (kq_code (kc_if rfl (fun c3 => ?_) (fun c3 => ?_)))
 ·skip
  refine kc_seq (kc_region (kl_as rfl (kl_nil (kq_code (kc_ret (kq_retP rfl rfl (congrArg Value.bool ?_)))))))
  exact eq_len (by assumption)
 ·skip
  refine kc_skipQ (kq_code (kc_seq (kc_seq (kc_region (kl_as rfl (kl_nil (kq_code (kc_block (kc_loop0 (A := Nat) (fun zz => (zz ≤ a.length) ∧ (a.take zz = b.take zz)) (fun zz => a.length - zz) (fun zz => [(5, .int .i64 (zz : Int))]) (0) (pc 0 rfl (pc 1 rfl pn)) (pc 5 rfl pn) ⟨Nat.zero_le _, by simp⟩ ?_)))))))))
  rintro k hJ6
  obtain ⟨hk4, hi5⟩ : (k ≤ a.length) ∧ (a.take k = b.take k) := hJ6
  change KC _ _ (_) _ _ ([(5, .int .i64 (k : Int))] ++ _)
  refine kc_seq (kc_seq (kc_region (kl_mv rfl (kl_mv rfl (kl_len rfl (by assumption) (fun l7 => ?_))))))
  refine kl_lss rfl rfl ?_
  refine kl_nil (kq_code (kc_if rfl (fun c8 => ?_) (fun c8 => ?_)))
  ·skip
   refine kc_skipQ (kq_code (kc_seq (kc_block (kc_seq (kc_draw 9 [true, true, true, true, true, true, true, true, true] (by kernel_rfl) (by kernel_rfl) ?_)))))
   refine kl_mv rfl (kl_mv rfl (kl_inI rfl rfl (by assumption) (by omega) (fun p9 a10 => ?_)))
   refine kl_ld rfl (by assumption) (kl_mv rfl (kl_mv rfl (kl_inI rfl rfl (by assumption) (by omega) (fun p11 a12 => ?_))))
   refine kl_ld rfl (by assumption) (kl_neq rfl rfl ?_)
   refine kl_nil (kq_code (kc_if rfl (fun c13 => ?_) (fun c13 => ?_)))
   ·skip
    refine kc_seq (kc_region (kl_as rfl (kl_nil (kq_code (kc_ret (kq_retP rfl rfl (congrArg Value.bool ?_)))))))
    exact eq_at (k := k) 0 (by simpa using by assumption)
   ·skip
    refine kc_skipQ (kq_code (kc_region (kl_mv rfl (kl_inc rfl rfl (by omega) ?_))))
    refine kl_as rfl (kl_nil (kq_round0 ((k + 1)) (by omega) (⟨by omega, eq_step 0 (by omega) (by omega) hi5 (by first | exact Decidable.not_not.1 (by assumption) | (simpa using by assumption))⟩) (pc 5 rfl pn) (pc 0 rfl (pc 1 rfl pn)) (List.Sublist.refl _)))
  ·skip
   refine kc_exit (kq_code (kc_seq (kc_region (kl_as rfl (kl_nil (kq_code (kc_ret (kq_retP rfl rfl (congrArg Value.bool ?_)))))))))
   exact eq_end (k := k) (by omega) (by omega) (by assumption)
theorem eqIntSS_ok {Ha : Hp} {va : Value} {Hb : Hp} {vb : Value} (a : List (List Int)) (b : List (List Int)) (ha : Rows Ha va a) (hb : Rows Hb vb b) : SpecP Tryz.prog 151 [va, vb] [Ha, Hb] (.bool (decide (a = b))) := by
 refine spec_of Tryz.func151 rfl rfl rfl (fun B => ?_)
 refine kc_seq (kc_region (kl_as rfl (kl_nil (kq_code (kc_seq (kc_seq (kc_region (kl_mv rfl (kl_len rfl (by assumption) (fun l1 => ?_))))))))))
 refine kl_mv rfl (kl_len rfl (by assumption) (fun l2 => ?_))
 refine kl_neq rfl rfl ?_
 refine kl_nil (kq_code (kc_if rfl (fun c3 => ?_) (fun c3 => ?_)))
 ·skip
  refine kc_seq (kc_region (kl_as rfl (kl_nil (kq_code (kc_ret (kq_retP rfl rfl (congrArg Value.bool ?_)))))))
  exact eq_len (by assumption)
 ·skip
  refine kc_skipQ (kq_code (kc_seq (kc_seq (kc_region (kl_as rfl (kl_nil (kq_code (kc_block (kc_loop0 (A := Nat) (fun zz => (zz ≤ a.length) ∧ (a.take zz = b.take zz)) (fun zz => a.length - zz) (fun zz => [(5, .int .i64 (zz : Int))]) (0) (pc 0 rfl (pc 1 rfl pn)) (pc 5 rfl pn) ⟨Nat.zero_le _, by simp⟩ ?_)))))))))
  rintro k hJ6
  obtain ⟨hk4, hi5⟩ : (k ≤ a.length) ∧ (a.take k = b.take k) := hJ6
  change KC _ _ (_) _ _ ([(5, .int .i64 (k : Int))] ++ _)
  refine kc_seq (kc_seq (kc_region (kl_mv rfl (kl_mv rfl (kl_len rfl (by assumption) (fun l7 => ?_))))))
  refine kl_lss rfl rfl ?_
  refine kl_nil (kq_code (kc_if rfl (fun c8 => ?_) (fun c8 => ?_)))
  ·skip
   refine kc_skipQ (kq_code (kc_seq (kc_block (kc_seq (kc_draw 10 [true, true, true, true, true, true, true, true, false, true] (by kernel_rfl) (by kernel_rfl) ?_)))))
   refine kl_mv rfl (kl_mv rfl (kl_inS rfl rfl (by assumption) (by omega) (fun p9 u11 h12 a10 => ?_)))
   refine kl_ld rfl (by assumption) (kl_mv rfl (kl_mv rfl (kl_inS rfl rfl (by assumption) (by omega) (fun p13 u15 h16 a14 => ?_))))
   refine kl_ld rfl (by assumption) (kl_callP rfl rfl (eqIntS_ok (a.getD k []) (b.getD k []) (by assumption) (by assumption)) ?_)
   refine kl_not rfl (kl_nil (kq_code (kc_cond rfl (fun c17 => ?_) (fun c17 => ?_))))
   ·skip
    have c17r := c17
    try simp only [smpC, decide_eq_true_eq, decide_eq_false_iff_not] at c17
    refine kc_seq (kc_region (kl_as rfl (kl_nil (kq_code (kc_ret (kq_retP rfl rfl (congrArg Value.bool ?_)))))))
    exact eq_at (k := k) [] (by simpa using by assumption)
   ·skip
    have c17r := c17
    try simp only [smpC, decide_eq_true_eq, decide_eq_false_iff_not] at c17
    refine kc_skipQ (kq_code (kc_region (kl_mv rfl (kl_inc rfl rfl (by omega) ?_))))
    refine kl_as rfl (kl_nil (kq_round0 ((k + 1)) (by omega) (⟨by omega, eq_step [] (by omega) (by omega) hi5 (by first | exact Decidable.not_not.1 (by assumption) | (simpa using by assumption))⟩) (pc 5 rfl pn) (pc 0 rfl (pc 1 rfl pn)) (List.Sublist.refl _)))
  ·skip
   refine kc_exit (kq_code (kc_seq (kc_region (kl_as rfl (kl_nil (kq_code (kc_ret (kq_retP rfl rfl (congrArg Value.bool ?_)))))))))
   exact eq_end (k := k) (by omega) (by omega) (by assumption)
theorem eqConstraint_ok {Hav : Hp} {vav : Value} {Haa : Hp} {vaa : Value} {Har : Hp} {var : Value} {Hbv : Hp} {vbv : Value} {Hba : Hp} {vba : Value} {Hbr : Hp} {vbr : Value} (a : Con) (b : Con) (hav : Ints Hav vav a.vars) (haa : Ints Haa vaa a.args) (har : Rows Har var a.rows) (hbv : Ints Hbv vbv b.vars) (hba : Ints Hba vba b.args) (hbr : Rows Hbr vbr b.rows) : SpecP Tryz.prog 104 [.agg #[.int .i64 a.kind, vav, vaa, .int .i64 a.bound, var], .agg #[.int .i64 b.kind, vbv, vba, .int .i64 b.bound, vbr]] [Hav, Haa, Har, Hbv, Hba, Hbr] (.bool (decide (a = b))) := by
 refine spec_of Tryz.func104 rfl rfl rfl (fun B => ?_)
 refine kc_seq (kc_region (kl_box rfl rfl (fun p1 H2 f3 a4 => ?_)))
 refine kl_box rfl rfl (fun p5 H6 f7 a8 => ?_)
 refine kl_as rfl (kl_nil (kq_code (kc_seq (kc_seq (kc_region (kl_fd rfl (by assumption) (fun p9 a10 => ?_)))))))
 refine kl_ld rfl (by assumption) (kl_fd rfl (by assumption) (fun p11 a12 => ?_))
 refine kl_ld rfl (by assumption) (kl_neq rfl rfl ?_)
 refine kl_nil (kq_code (kc_if rfl (fun c13 => ?_) (fun c13 => ?_)))
 ·skip
  refine kc_seq (kc_region (kl_as rfl (kl_nil (kq_code (kc_ret (kq_retP rfl rfl (congrArg Value.bool ?_)))))))
  rw [eqCon_iff]; simp_all
 ·skip
  refine kc_skipQ (kq_code (kc_seq (kc_seq (kc_region (kl_fd rfl (by assumption) (fun p14 a15 => ?_))))))
  refine kl_ld rfl (by assumption) (kl_fd rfl (by assumption) (fun p16 a17 => ?_))
  refine kl_ld rfl (by assumption) (kl_callP rfl rfl (eqIntS_ok a.vars b.vars (by assumption) (by assumption)) ?_)
  refine kl_not rfl (kl_nil (kq_code (kc_cond rfl (fun c18 => ?_) (fun c18 => ?_))))
  ·skip
   have c18r := c18
   try simp only [smpC, decide_eq_true_eq, decide_eq_false_iff_not] at c18
   refine kc_seq (kc_region (kl_as rfl (kl_nil (kq_code (kc_ret (kq_retP rfl rfl (congrArg Value.bool ?_)))))))
   rw [eqCon_iff]; simp_all
  ·skip
   have c18r := c18
   try simp only [smpC, decide_eq_true_eq, decide_eq_false_iff_not] at c18
   refine kc_skipQ (kq_code (kc_seq (kc_seq (kc_region (kl_fd rfl (by assumption) (fun p19 a20 => ?_))))))
   refine kl_ld rfl (by assumption) (kl_fd rfl (by assumption) (fun p21 a22 => ?_))
   refine kl_ld rfl (by assumption) (kl_callP rfl rfl (eqIntS_ok a.args b.args (by assumption) (by assumption)) ?_)
   refine kl_not rfl (kl_nil (kq_code (kc_cond rfl (fun c23 => ?_) (fun c23 => ?_))))
   ·skip
    have c23r := c23
    try simp only [smpC, decide_eq_true_eq, decide_eq_false_iff_not] at c23
    refine kc_seq (kc_region (kl_as rfl (kl_nil (kq_code (kc_ret (kq_retP rfl rfl (congrArg Value.bool ?_)))))))
    rw [eqCon_iff]; simp_all
   ·skip
    have c23r := c23
    try simp only [smpC, decide_eq_true_eq, decide_eq_false_iff_not] at c23
    refine kc_skipQ (kq_code (kc_seq (kc_seq (kc_region (kl_fd rfl (by assumption) (fun p24 a25 => ?_))))))
    refine kl_ld rfl (by assumption) (kl_fd rfl (by assumption) (fun p26 a27 => ?_))
    refine kl_ld rfl (by assumption) (kl_neq rfl rfl ?_)
    refine kl_nil (kq_code (kc_if rfl (fun c28 => ?_) (fun c28 => ?_)))
    ·skip
     refine kc_seq (kc_region (kl_as rfl (kl_nil (kq_code (kc_ret (kq_retP rfl rfl (congrArg Value.bool ?_)))))))
     rw [eqCon_iff]; simp_all
    ·skip
     refine kc_skipQ (kq_code (kc_seq (kc_seq (kc_region (kl_fd rfl (by assumption) (fun p29 a30 => ?_))))))
     refine kl_ld rfl (by assumption) (kl_fd rfl (by assumption) (fun p31 a32 => ?_))
     refine kl_ld rfl (by assumption) (kl_callP rfl rfl (eqIntSS_ok a.rows b.rows (by assumption) (by assumption)) ?_)
     refine kl_not rfl (kl_nil (kq_code (kc_cond rfl (fun c33 => ?_) (fun c33 => ?_))))
     ·skip
      have c33r := c33
      try simp only [smpC, decide_eq_true_eq, decide_eq_false_iff_not] at c33
      refine kc_seq (kc_region (kl_as rfl (kl_nil (kq_code (kc_ret (kq_retP rfl rfl (congrArg Value.bool ?_)))))))
      rw [eqCon_iff]; simp_all
     ·skip
      have c33r := c33
      try simp only [smpC, decide_eq_true_eq, decide_eq_false_iff_not] at c33
      refine kc_skipQ (kq_code (kc_seq (kc_region (kl_as rfl (kl_nil (kq_code (kc_ret (kq_retP rfl rfl (congrArg Value.bool ?_)))))))))
      rw [eqCon_iff]; simp_all
theorem eqConstraintS_ok {Ha : Hp} {va : Value} {Hb : Hp} {vb : Value} (a : List Con) (b : List Con) (ha : Cons Ha va a) (hb : Cons Hb vb b) : SpecP Tryz.prog 63 [va, vb] [Ha, Hb] (.bool (decide (a = b))) := by
 refine spec_of Tryz.func63 rfl rfl rfl (fun B => ?_)
 refine kc_seq (kc_region (kl_as rfl (kl_nil (kq_code (kc_seq (kc_seq (kc_region (kl_mv rfl (kl_len rfl (by assumption) (fun l1 => ?_))))))))))
 refine kl_mv rfl (kl_len rfl (by assumption) (fun l2 => ?_))
 refine kl_neq rfl rfl ?_
 refine kl_nil (kq_code (kc_if rfl (fun c3 => ?_) (fun c3 => ?_)))
 ·skip
  refine kc_seq (kc_region (kl_as rfl (kl_nil (kq_code (kc_ret (kq_retP rfl rfl (congrArg Value.bool ?_)))))))
  exact eq_len (by assumption)
 ·skip
  refine kc_skipQ (kq_code (kc_seq (kc_seq (kc_region (kl_as rfl (kl_nil (kq_code (kc_block (kc_loop0 (A := Nat) (fun zz => (zz ≤ a.length) ∧ (a.take zz = b.take zz)) (fun zz => a.length - zz) (fun zz => [(5, .int .i64 (zz : Int))]) (0) (pc 0 rfl (pc 1 rfl pn)) (pc 5 rfl pn) ⟨Nat.zero_le _, by simp⟩ ?_)))))))))
  rintro k hJ6
  obtain ⟨hk4, hi5⟩ : (k ≤ a.length) ∧ (a.take k = b.take k) := hJ6
  change KC _ _ (_) _ _ ([(5, .int .i64 (k : Int))] ++ _)
  refine kc_seq (kc_seq (kc_region (kl_mv rfl (kl_mv rfl (kl_len rfl (by assumption) (fun l7 => ?_))))))
  refine kl_lss rfl rfl ?_
  refine kl_nil (kq_code (kc_if rfl (fun c8 => ?_) (fun c8 => ?_)))
  ·skip
   refine kc_skipQ (kq_code (kc_seq (kc_block (kc_seq (kc_draw 10 [true, true, true, true, true, true, true, true, false, true] (by kernel_rfl) (by kernel_rfl) ?_)))))
   refine kl_mv rfl (kl_mv rfl (kl_inC rfl rfl (by assumption) (by omega) (fun p9 u11 u12 u13 h14 h15 h16 a10 => ?_)))
   refine kl_ldS rfl (by assumption) rfl ?_
   refine kl_mv rfl (kl_mv rfl (kl_inC rfl rfl (by assumption) (by omega) (fun p17 u19 u20 u21 h22 h23 h24 a18 => ?_)))
   refine kl_ldS rfl (by assumption) rfl ?_
   refine kl_callP rfl rfl (eqConstraint_ok (a.getD k nilCon) (b.getD k nilCon) (by assumption) (by assumption) (by assumption) (by assumption) (by assumption) (by assumption)) ?_
   refine kl_not rfl (kl_nil (kq_code (kc_cond rfl (fun c25 => ?_) (fun c25 => ?_))))
   ·skip
    have c25r := c25
    try simp only [smpC, decide_eq_true_eq, decide_eq_false_iff_not] at c25
    refine kc_seq (kc_region (kl_as rfl (kl_nil (kq_code (kc_ret (kq_retP rfl rfl (congrArg Value.bool ?_)))))))
    exact eq_at (k := k) nilCon (by simpa using by assumption)
   ·skip
    have c25r := c25
    try simp only [smpC, decide_eq_true_eq, decide_eq_false_iff_not] at c25
    refine kc_skipQ (kq_code (kc_region (kl_mv rfl (kl_inc rfl rfl (by omega) ?_))))
    refine kl_as rfl (kl_nil (kq_round0 ((k + 1)) (by omega) (⟨by omega, eq_step nilCon (by omega) (by omega) hi5 (by first | exact Decidable.not_not.1 (by assumption) | (simpa using by assumption))⟩) (pc 5 rfl pn) (pc 0 rfl (pc 1 rfl pn)) (List.Sublist.refl _)))
  ·skip
   refine kc_exit (kq_code (kc_seq (kc_region (kl_as rfl (kl_nil (kq_code (kc_ret (kq_retP rfl rfl (congrArg Value.bool ?_)))))))))
   exact eq_end (k := k) (by omega) (by omega) (by assumption)
theorem eqModel_ok {Had : Hp} {vad : Value} {Hac : Hp} {vac : Value} {Hbd : Hp} {vbd : Value} {Hbc : Hp} {vbc : Value} (a : Mod) (b : Mod) (had : Ints Had vad a.doms) (hac : Cons Hac vac a.cons) (hbd : Ints Hbd vbd b.doms) (hbc : Cons Hbc vbc b.cons) : SpecP Tryz.prog 23 [.agg #[vad, vac], .agg #[vbd, vbc]] [Had, Hac, Hbd, Hbc] (.bool (decide (a = b))) := by
 refine spec_of Tryz.func23 rfl rfl rfl (fun B => ?_)
 refine kc_seq (kc_region (kl_box rfl rfl (fun p1 H2 f3 a4 => ?_)))
 refine kl_box rfl rfl (fun p5 H6 f7 a8 => ?_)
 refine kl_as rfl (kl_nil (kq_code (kc_seq (kc_seq (kc_region (kl_fd rfl (by assumption) (fun p9 a10 => ?_)))))))
 refine kl_ld rfl (by assumption) (kl_fd rfl (by assumption) (fun p11 a12 => ?_))
 refine kl_ld rfl (by assumption) (kl_callP rfl rfl (eqIntS_ok a.doms b.doms (by assumption) (by assumption)) ?_)
 refine kl_not rfl (kl_nil (kq_code (kc_cond rfl (fun c13 => ?_) (fun c13 => ?_))))
 ·skip
  have c13r := c13
  try simp only [smpC, decide_eq_true_eq, decide_eq_false_iff_not] at c13
  refine kc_seq (kc_region (kl_as rfl (kl_nil (kq_code (kc_ret (kq_retP rfl rfl (congrArg Value.bool ?_)))))))
  rw [eqMod_iff]; simp_all
 ·skip
  have c13r := c13
  try simp only [smpC, decide_eq_true_eq, decide_eq_false_iff_not] at c13
  refine kc_skipQ (kq_code (kc_seq (kc_seq (kc_region (kl_fd rfl (by assumption) (fun p14 a15 => ?_))))))
  refine kl_ld rfl (by assumption) (kl_fd rfl (by assumption) (fun p16 a17 => ?_))
  refine kl_ld rfl (by assumption) (kl_callP rfl rfl (eqConstraintS_ok a.cons b.cons (by assumption) (by assumption)) ?_)
  refine kl_not rfl (kl_nil (kq_code (kc_cond rfl (fun c18 => ?_) (fun c18 => ?_))))
  ·skip
   have c18r := c18
   try simp only [smpC, decide_eq_true_eq, decide_eq_false_iff_not] at c18
   refine kc_seq (kc_region (kl_as rfl (kl_nil (kq_code (kc_ret (kq_retP rfl rfl (congrArg Value.bool ?_)))))))
   rw [eqMod_iff]; simp_all
  ·skip
   have c18r := c18
   try simp only [smpC, decide_eq_true_eq, decide_eq_false_iff_not] at c18
   refine kc_skipQ (kq_code (kc_seq (kc_region (kl_as rfl (kl_nil (kq_code (kc_ret (kq_retP rfl rfl (congrArg Value.bool ?_)))))))))
   rw [eqMod_iff]; simp_all
theorem toLit_ok (a : Lit) : Spec Tryz.prog 106 [.agg #[.int .i64 a.var, .int .i64 a.val, .bool a.neg]] [] ((fun Hq vq => vq = .agg #[.int .i64 a.var, .int .i64 a.val, .bool a.neg])) := by
 refine spec_of Tryz.func106 rfl rfl rfl (fun B => ?_)
 refine kc_seq (kc_region (kl_box rfl rfl (fun p1 H2 f3 a4 => ?_)))
 refine kl_alloc (cs := [.int .i64 (0 : Int), .int .i64 (0 : Int), .bool false]) rfl (fun b5 hb6 => ?_)
 refine kl_nil (kq_code (kc_seq (kc_region (kl_alloc (cs := [.int .i64 (0 : Int), .int .i64 (0 : Int), .bool false]) rfl (fun b7 hb8 => ?_)))))
 refine kl_nil (kq_code (kc_seq (kc_region (kl_fd rfl (by assumption) (fun p9 a10 => ?_)))))
 refine kl_ld rfl (by assumption) (kl_fdV rfl (kl_stB rfl rfl rfl rfl rfl ?_))
 refine kl_chg [sing b7 (.cells [.int .i64 a.var, .int .i64 (0 : Int), .bool false].toArray 107 (0, 0)), sing b5 (.cells [.int .i64 (0 : Int), .int .i64 (0 : Int), .bool false].toArray 107 (0, 0))] rfl ?_
 refine kl_nil (kq_code (kc_seq (kc_region (kl_fd rfl (by assumption) (fun p11 a12 => ?_)))))
 refine kl_ld rfl (by assumption) (kl_fdV rfl (kl_stB rfl rfl rfl rfl rfl ?_))
 refine kl_chg [sing b7 (.cells [.int .i64 a.var, .int .i64 a.val, .bool false].toArray 107 (0, 0)), sing b5 (.cells [.int .i64 (0 : Int), .int .i64 (0 : Int), .bool false].toArray 107 (0, 0))] rfl ?_
 refine kl_nil (kq_code (kc_seq (kc_region (kl_fd rfl (by assumption) (fun p13 a14 => ?_)))))
 refine kl_ld rfl (by assumption) (kl_fdV rfl (kl_stB rfl rfl rfl rfl rfl ?_))
 refine kl_chg [sing b7 (.cells [.int .i64 a.var, .int .i64 a.val, .bool a.neg].toArray 107 (0, 0)), sing b5 (.cells [.int .i64 (0 : Int), .int .i64 (0 : Int), .bool false].toArray 107 (0, 0))] rfl ?_
 refine kl_nil (kq_code (kc_seq (kc_region (kl_ldW rfl rfl (kl_stW (us := [.int .i64 a.var, .int .i64 a.val, .bool a.neg]) rfl rfl rfl rfl (oc rfl (oc rfl (oc rfl oc_nil))) rfl ?_)))))
 refine kl_chg [sing b7 (.cells [.int .i64 a.var, .int .i64 a.val, .bool a.neg].toArray 107 (0, 0)), sing b5 (.cells [.int .i64 a.var, .int .i64 a.val, .bool a.neg].toArray 107 (0, 0))] rfl ?_
 refine kl_nil (kq_code (kc_ret ?_))
 exact kq_retC rfl rfl rfl noHp (fr_no _) rfl
theorem toLitS_ok {Ha : Hp} {va : Value} (a : List Lit) (hb : a.length ≤ 1048576) (ha : Lits Ha va a) : Spec Tryz.prog 68 [va] [Ha] (fun Hq vq => Lits Hq vq a) := by
 refine spec_of Tryz.func68 rfl rfl rfl (fun B => ?_)
 refine kc_seq (kc_region (kl_as rfl (kl_nil (kq_code (kc_seq (kc_region (kl_mv rfl (kl_len rfl (by assumption) (fun l1 => ?_)))))))))
 refine kl_mkL (R := LitV) nilLit rfl rfl (by omega) (by decide) (by exact rfl) (fun v2 H3 f4 o5 => ?_)
 refine kl_as rfl (kl_nil (kq_code (kc_seq (kc_seq (kc_region (kl_as rfl (kl_nil (kq_code (kc_block (kc_loopL (A := Nat × Hp) (fun zz => (zz.1 ≤ a.length) ∧ OwnL 107 3 zz.2 noHp LitV v2 (a.take zz.1 ++ List.replicate (a.length - zz.1) nilLit) ∧ Fr B zz.2) (fun zz => a.length - zz.1) (fun zz => [zz.2]) (fun zz => [(4, .int .i64 (zz.1 : Int))]) (0, H3) (pc 0 rfl (pc 2 rfl (pc 3 rfl pn))) (pc 4 rfl pn) rfl ⟨Nat.zero_le _, (OwnL.cast (by simp : (List.replicate a.length nilLit) = (a.take 0 ++ List.replicate (a.length - 0) nilLit)) o5), f4⟩ ?_))))))))))
 rintro ⟨k, H8⟩ hJ11
 obtain ⟨hk6, o9, f10⟩ : (k ≤ a.length) ∧ OwnL 107 3 H8 noHp LitV v2 (a.take k ++ List.replicate (a.length - k) nilLit) ∧ Fr B H8 := hJ11
 change KC _ _ (_) [H8] _ ([(4, .int .i64 (k : Int))] ++ _)
 refine kc_seq (kc_seq (kc_region (kl_mv rfl (kl_mv rfl (kl_len rfl (by assumption) (fun l12 => ?_))))))
 refine kl_lss rfl rfl ?_
 refine kl_nil (kq_code (kc_if rfl (fun c13 => ?_) (fun c13 => ?_)))
 ·skip
  refine kc_skipQ (kq_code (kc_seq (kc_block (kc_region (kl_mv rfl (kl_mv rfl (kl_mv rfl (kl_mv rfl ?_))))))))
  refine kl_inQ rfl rfl (by assumption) (by first | omega | (simp only [List.length_append, List.length_take, List.length_replicate]; omega)) (fun p14 a15 => ?_)
  refine kl_ldS rfl (by assumption) rfl ?_
  refine kl_call rfl rfl (toLit_ok (a.getD k nilLit)) (fun v16 H17 f18 h19 => ?_)
  subst h19
  refine kl_ixLn rfl rfl (by assumption) (by first | omega | (simp only [List.length_append, List.length_take, List.length_replicate]; omega)) (fun p20 q21 => ?_)
  refine kl_stLk (us := [.int .i64 ((a.getD k nilLit).var), .int .i64 ((a.getD k nilLit).val), .bool ((a.getD k nilLit).neg)]) (a.getD k nilLit) rfl rfl (by assumption) o9 (by first | omega | (simp only [List.length_append, List.length_take, List.length_replicate]; omega)) rfl rfl (oc rfl (oc rfl (oc rfl oc_nil))) rfl (fun H22 o23 f24 => ?_)
  have f25 := f24 _ f10
  refine kl_nil (kq_code (kc_region (kl_mv rfl (kl_inc rfl rfl (by omega) ?_))))
  refine kl_as rfl (kl_nil (kq_roundL ((k + 1), H22) (by omega) (⟨by omega, (OwnL.cast (by exact fill_step nilLit (by omega) : ((a.take k ++ List.replicate (a.length - k) nilLit).set k (a.getD k nilLit)) = (a.take (k + 1) ++ List.replicate (a.length - (k + 1)) nilLit)) o23), f25⟩) (pc 4 rfl pn) (pc 0 rfl (pc 2 rfl (pc 3 rfl pn))) rfl (List.Sublist.refl _)))
 ·skip
  refine kc_exit (kq_code (kc_seq (kc_region (kl_mv rfl (kl_as rfl (kl_nil (kq_code (kc_ret ?_))))))))
  have e9 : (a.take k ++ List.replicate (a.length - k) nilLit) = a := by exact fill_end (by omega)
  exact kq_ret rfl rfl H8 f10 (e9 ▸ OwnL.lits o9)
theorem szLitS_ok {Ha : Hp} {va : Value} (a : List Lit) (left : Int) (hl : 0 ≤ left ∧ left ≤ 1048576) (ha : Lits Ha va a) : SpecP Tryz.prog 67 [va, .int .i64 left] [Ha] (.int .i64 (szB left a.length)) := by
 refine spec_of Tryz.func67 rfl rfl rfl (fun B => ?_)
 refine kc_seq (kc_region (kl_as rfl (kl_nil (kq_code (kc_seq (kc_region (kl_mv rfl (kl_mv rfl (kl_len rfl (by assumption) (fun l1 => ?_))))))))))
 refine kl_sub rfl rfl (by omega) ?_
 refine kl_as rfl (kl_nil (kq_code (kc_seq (kc_seq (kc_region (kl_mv rfl (kl_lss rfl rfl ?_)))))))
 refine kl_nil (kq_code (kc_if rfl (fun c2 => ?_) (fun c2 => ?_)))
 ·skip
  refine kc_seq (kc_region (kl_as rfl (kl_nil (kq_code (kc_ret (kq_retP rfl rfl (congrArg (Value.int .i64) ?_)))))))
  exact szB_neg (by omega)
 ·skip
  refine kc_skipQ (kq_code (kc_seq (kc_region (kl_mv rfl (kl_as rfl (kl_nil (kq_code (kc_ret (kq_retP rfl rfl (congrArg (Value.int .i64) ?_))))))))))
  exact szB_pos rfl (by omega)
theorem eqLit_ok (a : Lit) (b : Lit) : SpecP Tryz.prog 103 [.agg #[.int .i64 a.var, .int .i64 a.val, .bool a.neg], .agg #[.int .i64 b.var, .int .i64 b.val, .bool b.neg]] [] (.bool (decide (a = b))) := by
 refine spec_of Tryz.func103 rfl rfl rfl (fun B => ?_)
 refine kc_seq (kc_region (kl_box rfl rfl (fun p1 H2 f3 a4 => ?_)))
 refine kl_box rfl rfl (fun p5 H6 f7 a8 => ?_)
 refine kl_as rfl (kl_nil (kq_code (kc_seq (kc_seq (kc_region (kl_fd rfl (by assumption) (fun p9 a10 => ?_)))))))
 refine kl_ld rfl (by assumption) (kl_fd rfl (by assumption) (fun p11 a12 => ?_))
 refine kl_ld rfl (by assumption) (kl_neq rfl rfl ?_)
 refine kl_nil (kq_code (kc_if rfl (fun c13 => ?_) (fun c13 => ?_)))
 ·skip
  refine kc_seq (kc_region (kl_as rfl (kl_nil (kq_code (kc_ret (kq_retP rfl rfl (congrArg Value.bool ?_)))))))
  rw [eqLit_iff]; simp_all
 ·skip
  refine kc_skipQ (kq_code (kc_seq (kc_seq (kc_region (kl_fd rfl (by assumption) (fun p14 a15 => ?_))))))
  refine kl_ld rfl (by assumption) (kl_fd rfl (by assumption) (fun p16 a17 => ?_))
  refine kl_ld rfl (by assumption) (kl_neq rfl rfl ?_)
  refine kl_nil (kq_code (kc_if rfl (fun c18 => ?_) (fun c18 => ?_)))
  ·skip
   refine kc_seq (kc_region (kl_as rfl (kl_nil (kq_code (kc_ret (kq_retP rfl rfl (congrArg Value.bool ?_)))))))
   rw [eqLit_iff]; simp_all
  ·skip
   refine kc_skipQ (kq_code (kc_seq (kc_seq (kc_region (kl_fd rfl (by assumption) (fun p19 a20 => ?_))))))
   refine kl_ld rfl (by assumption) (kl_fd rfl (by assumption) (fun p21 a22 => ?_))
   refine kl_ld rfl (by assumption) (kl_bne rfl rfl ?_)
   refine kl_nil (kq_code (kc_cond rfl (fun c23 => ?_) (fun c23 => ?_)))
   ·skip
    have c23r := c23
    try simp only [smpC, decide_eq_true_eq, decide_eq_false_iff_not] at c23
    refine kc_seq (kc_region (kl_as rfl (kl_nil (kq_code (kc_ret (kq_retP rfl rfl (congrArg Value.bool ?_)))))))
    rw [eqLit_iff]; simp_all
   ·skip
    have c23r := c23
    try simp only [smpC, decide_eq_true_eq, decide_eq_false_iff_not] at c23
    refine kc_skipQ (kq_code (kc_seq (kc_region (kl_as rfl (kl_nil (kq_code (kc_ret (kq_retP rfl rfl (congrArg Value.bool ?_)))))))))
    rw [eqLit_iff]; simp_all
theorem eqLiteralS_ok {Ha : Hp} {va : Value} {Hb : Hp} {vb : Value} (a : List Lit) (b : List Lit) (ha : Lits Ha va a) (hb : Lits Hb vb b) : SpecP Tryz.prog 62 [va, vb] [Ha, Hb] (.bool (decide (a = b))) := by
 refine spec_of Tryz.func62 rfl rfl rfl (fun B => ?_)
 refine kc_seq (kc_region (kl_as rfl (kl_nil (kq_code (kc_seq (kc_seq (kc_region (kl_mv rfl (kl_len rfl (by assumption) (fun l1 => ?_))))))))))
 refine kl_mv rfl (kl_len rfl (by assumption) (fun l2 => ?_))
 refine kl_neq rfl rfl ?_
 refine kl_nil (kq_code (kc_if rfl (fun c3 => ?_) (fun c3 => ?_)))
 ·skip
  refine kc_seq (kc_region (kl_as rfl (kl_nil (kq_code (kc_ret (kq_retP rfl rfl (congrArg Value.bool ?_)))))))
  exact eq_len (by assumption)
 ·skip
  refine kc_skipQ (kq_code (kc_seq (kc_seq (kc_region (kl_as rfl (kl_nil (kq_code (kc_block (kc_loop0 (A := Nat) (fun zz => (zz ≤ a.length) ∧ (a.take zz = b.take zz)) (fun zz => a.length - zz) (fun zz => [(5, .int .i64 (zz : Int))]) (0) (pc 0 rfl (pc 1 rfl pn)) (pc 5 rfl pn) ⟨Nat.zero_le _, by simp⟩ ?_)))))))))
  rintro k hJ6
  obtain ⟨hk4, hi5⟩ : (k ≤ a.length) ∧ (a.take k = b.take k) := hJ6
  change KC _ _ (_) _ _ ([(5, .int .i64 (k : Int))] ++ _)
  refine kc_seq (kc_seq (kc_region (kl_mv rfl (kl_mv rfl (kl_len rfl (by assumption) (fun l7 => ?_))))))
  refine kl_lss rfl rfl ?_
  refine kl_nil (kq_code (kc_if rfl (fun c8 => ?_) (fun c8 => ?_)))
  ·skip
   refine kc_skipQ (kq_code (kc_seq (kc_block (kc_seq (kc_draw 10 [true, true, true, true, true, true, true, true, false, true] (by kernel_rfl) (by kernel_rfl) ?_)))))
   refine kl_mv rfl (kl_mv rfl (kl_inQ rfl rfl (by assumption) (by omega) (fun p9 a10 => ?_)))
   refine kl_ldS rfl (by assumption) rfl ?_
   refine kl_mv rfl (kl_mv rfl (kl_inQ rfl rfl (by assumption) (by omega) (fun p11 a12 => ?_)))
   refine kl_ldS rfl (by assumption) rfl ?_
   refine kl_callP rfl rfl (eqLit_ok (a.getD k nilLit) (b.getD k nilLit)) ?_
   refine kl_not rfl (kl_nil (kq_code (kc_cond rfl (fun c13 => ?_) (fun c13 => ?_))))
   ·skip
    have c13r := c13
    try simp only [smpC, decide_eq_true_eq, decide_eq_false_iff_not] at c13
    refine kc_seq (kc_region (kl_as rfl (kl_nil (kq_code (kc_ret (kq_retP rfl rfl (congrArg Value.bool ?_)))))))
    exact eq_at (k := k) nilLit (by simpa using by assumption)
   ·skip
    have c13r := c13
    try simp only [smpC, decide_eq_true_eq, decide_eq_false_iff_not] at c13
    refine kc_skipQ (kq_code (kc_region (kl_mv rfl (kl_inc rfl rfl (by omega) ?_))))
    refine kl_as rfl (kl_nil (kq_round0 ((k + 1)) (by omega) (⟨by omega, eq_step nilLit (by omega) (by omega) hi5 (by first | exact Decidable.not_not.1 (by assumption) | (simpa using by assumption))⟩) (pc 5 rfl pn) (pc 0 rfl (pc 1 rfl pn)) (List.Sublist.refl _)))
  ·skip
   refine kc_exit (kq_code (kc_seq (kc_region (kl_as rfl (kl_nil (kq_code (kc_ret (kq_retP rfl rfl (congrArg Value.bool ?_)))))))))
   exact eq_end (k := k) (by omega) (by omega) (by assumption)
end Go.Proofs.YtojinjdobjodaaaGreat
