/- Parts of the proof: a logic of partial frames, plain functions, walks of the program's functions. Conditions: those that each statement names. -/
import Derived.Test.YtolndgeihijlbaaGreatKExactProveBound4
namespace Go.Proofs.YtolndgeihijlbaaGreat
open Go
set_option linter.unusedSimpArgs false
set_option linter.unusedVariables false
section
theorem within_ok (n : Int) (lo : Int) (hi : Int) : SpecP Tryz.prog 52 [.int .i64 n, .int .i64 lo, .int .i64 hi] [] (.bool (withinB n lo hi)) := by
 refine spec_of Tryz.func52 rfl rfl rfl (fun B => ?_)
 refine cS (cr (sg rfl (ln (qc (cS (cr (mv rfl (mv rfl (kl_geq rfl rfl ?_)))))))))
 refine mv rfl (jn 4 14 (.bool (decide (lo ≤ n) && decide (n ≤ hi))) (pk [6, 10] rfl) (fun J2 => ?_) ?_)
 ·rcases Bool.eq_false_or_eq_true (decide (lo ≤ n)) with g1 | g1
  ·have g1p := of_decide_eq_true g1
   refine gT rfl rfl g1 (mv rfl (gT rfl rfl g1 (mv rfl (gT rfl rfl g1 (kl_leq rfl rfl ?_)))))
   refine aT rfl rfl g1 ?_
   exact J2 _ (pk [14, 6, 10] rfl)
  ·refine gF rfl rfl g1 (gF rfl rfl g1 (gF rfl rfl g1 (aF (decide (n ≤ hi)) rfl rfl g1 ?_)))
   exact J2 _ (pk [14, 6, 10] rfl)
 refine sg rfl (ln (qc (rt (kq_retP rfl rfl (congrArg Value.bool ?_)))))
 rfl
theorem indexInts_ok {Hxs : Hp} {vxs : Value} (xs : List Int) (x : Int) (hxs : Ints Hxs vxs xs) : SpecP Tryz.prog 186 [vxs, .int .i64 x] [Hxs] (.int .i64 (indexBy (fun y => decide (x = y)) xs)) := by
 refine spec_of Tryz.func186 rfl rfl rfl (fun B => ?_)
 refine cS (cr (sg rfl (ln (qc (cS (cS (cr (mv rfl (le9 rfl ‹_› (fun l1 => ?_))))))))))
 refine mv rfl (ln (qc (bl (kc_loop0 (A := Nat) (fun zz => (zz ≤ xs.length) ∧ ((xs.take zz).any (fun y => decide (x = y)) = false)) (fun zz => xs.length - zz) (fun zz => [(8, .int .i64 (zz : Int))]) (0) (pk [0, 1, 7] rfl) (pc 8 rfl pn) ⟨Nat.zero_le _, by simp⟩ ?_))))
 rintro k hJ4
 obtain ⟨hk2, hi3⟩ : (k ≤ xs.length) ∧ ((xs.take k).any (fun y => decide (x = y)) = false) := hJ4
 change KC _ _ (_) _ _ ([(8, .int .i64 (k : Int))] ++ _)
 refine cS (cr (ls9 rfl rfl ?_))
 refine ln (qc (cS (ci9 rfl (fun c5 => ?_) (fun c5 => ?_))))
 ·refine sk (qc (cS (bl (cS (cr (mv rfl (sg rfl (ln (qc (cS (cr (mv rfl ?_))))))))))))
  refine mv rfl (mv rfl (kl_inI rfl rfl ‹_› (by omega) (fun p6 a7 => ?_)))
  refine ld rfl ‹_› (eq9 rfl rfl ?_)
  refine ln (qc (ci9 rfl (fun c8 => ?_) (fun c8 => ?_)))
  ·refine cS (cr (mv rfl (sg rfl (ln (qc (rt (kq_retP rfl rfl (congrArg (Value.int .i64) ?_))))))))
   exact indexBy_hit (d := 0) (by omega) ‹_› (by simpa using by assumption)
  ·refine sk (qc (cr (ic9 rfl rfl (by omega) ?_)))
   refine mv rfl (ln (kq_round0 ((k + 1)) (by omega) (⟨by omega, any_take_step (d := 0) (by omega) hi3 (by simpa using by assumption)⟩) (pc 8 rfl pn) (pk [0, 1, 7] rfl) slr9))
 ·refine ex9 (qc (cS (cr (sg rfl (ln (qc (rt (kq_retP rfl rfl (congrArg (Value.int .i64) ?_)))))))))
  exact indexBy_none (by omega) ‹_›
theorem containsInts_ok {Hxs : Hp} {vxs : Value} (xs : List Int) (x : Int) (hxs : Ints Hxs vxs xs) : SpecP Tryz.prog 170 [vxs, .int .i64 x] [Hxs] (.bool (xs.contains x)) := by
 refine spec_of Tryz.func170 rfl rfl rfl (fun B => ?_)
 refine cS (cr (sg rfl (ln (qc (cS (cr (mv rfl (mv rfl (cP rfl rfl (indexInts_ok xs x ‹_›) ?_)))))))))
 refine kl_geq rfl rfl ?_
 refine sg rfl (ln (qc (rt (kq_retP rfl rfl (congrArg Value.bool ?_)))))
 rw [indexBy_any]; rw [List.contains_eq_any_beq]; rfl
theorem distinct_ok {Hxs : Hp} {vxs : Value} (xs : List Int) (hxs : Ints Hxs vxs xs) : SpecP Tryz.prog 131 [vxs] [Hxs] (.bool (distinctB xs)) := by
 refine spec_of Tryz.func131 rfl rfl rfl (fun B => ?_)
 refine cS (cr (sg rfl (ln (qc (cS (cS (cr (mv rfl (le9 rfl ‹_› (fun l1 => ?_))))))))))
 refine mv rfl (ln (qc (bl (kc_loop0 (A := Nat) (fun zz => (zz ≤ xs.length) ∧ ((xs.take zz).Nodup)) (fun zz => xs.length - zz) (fun zz => [(7, .int .i64 (zz : Int))]) (0) (pk [0, 5, 6] rfl) (pc 7 rfl pn) ⟨Nat.zero_le _, by simp⟩ ?_))))
 rintro k hJ4
 obtain ⟨hk2, hi3⟩ : (k ≤ xs.length) ∧ ((xs.take k).Nodup) := hJ4
 change KC _ _ (_) _ _ ([(7, .int .i64 (k : Int))] ++ _)
 refine cS (cr (ls9 rfl rfl ?_))
 refine ln (qc (cS (ci9 rfl (fun c5 => ?_) (fun c5 => ?_))))
 ·refine sk (qc (cS (bl (cS (cr (mv rfl (kl_inI rfl rfl ‹_› (by omega) (fun p6 a7 => ?_))))))))
  refine ld rfl ‹_› (sg rfl (sg rfl (ln (qc (cS (cr (mv rfl (mv rfl (kl_slTake rfl rfl ‹_› (by omega) (fun u8 h9 => ?_))))))))))
  refine mv rfl (cP rfl rfl (containsInts_ok (xs.take k) (xs.getD k 0) ‹_›) ?_)
  refine ln (qc (cd9 rfl (fun c10 => ?_) (fun c10 => ?_)))
  ·have c10r := c10
   try simp only [smpE] at c10
   refine cS (cr (sg rfl (ln (qc (rt (kq_retP rfl rfl (congrArg Value.bool ?_)))))))
   simp only [distinctB]; exact (decide_eq_false (nodup_not (k := k) (by omega) (by simp at *; assumption))).symm
  ·have c10r := c10
   try simp only [smpE] at c10
   refine sk (qc (cr (ic9 rfl rfl (by omega) ?_)))
   refine mv rfl (ln (kq_round0 ((k + 1)) (by omega) (⟨by omega, (nodup_take_succ (by omega)).2 ⟨hi3, by simp at *; assumption⟩⟩) (pc 7 rfl pn) (pk [0, 5, 6] rfl) slr9))
 ·refine ex9 (qc (cS (cr (sg rfl (ln (qc (rt (kq_retP rfl rfl (congrArg Value.bool ?_)))))))))
  simp only [distinctB]; rw [List.take_of_length_le (by omega)] at hi3; exact (decide_eq_true hi3).symm
theorem ixf_int_ok {Hxs : Hp} {vxs : Value} {gp : Nat} {capsp : Array Value} {imp : List Hp} [FnC Tryz.prog gp] (xs : List Int) (p : Int → Bool) (hxs : Ints Hxs vxs xs) (hp : ∀ n : Int, n ∈ xs → SpecP Tryz.prog gp (.int .i64 n :: capsp.toList) imp (.bool (p n))) : SpecP Tryz.prog 126 [vxs, .func (.func gp) #[] capsp] (Hxs :: imp) (.int .i64 (indexBy p xs)) := by
 refine spec_of Tryz.func126 rfl rfl rfl (fun B => ?_)
 refine cS (cr (sg rfl (ln (qc (cS (cS (cr (mv rfl (le9 rfl ‹_› (fun l1 => ?_))))))))))
 refine mv rfl (ln (qc (bl (kc_loop0 (A := Nat) (fun zz => (zz ≤ xs.length) ∧ ((xs.take zz).any p = false)) (fun zz => xs.length - zz) (fun zz => [(8, .int .i64 (zz : Int))]) (0) (pk [0, 1, 7] rfl) (pc 8 rfl pn) ⟨Nat.zero_le _, by simp⟩ ?_))))
 rintro k hJ4
 obtain ⟨hk2, hi3⟩ : (k ≤ xs.length) ∧ ((xs.take k).any p = false) := hJ4
 change KC _ _ (_) _ _ ([(8, .int .i64 (k : Int))] ++ _)
 refine cS (cr (ls9 rfl rfl ?_))
 refine ln (qc (cS (ci9 rfl (fun c5 => ?_) (fun c5 => ?_))))
 ·refine sk (qc (cS (bl (cS (cr (mv rfl (sg rfl (ln (qc (cS (cr (mv rfl ?_))))))))))))
  refine mv rfl (mv rfl (kl_inI rfl rfl ‹_› (by omega) (fun p6 a7 => ?_)))
  refine ld rfl ‹_› (cP rfl rfl (hp (xs.getD k 0) (getD_mem (by omega))) ?_)
  refine ln (qc (cd9 rfl (fun c8 => ?_) (fun c8 => ?_)))
  ·have c8r := c8
   try simp only [smpE] at c8
   refine cS (cr (mv rfl (sg rfl (ln (qc (rt (kq_retP rfl rfl (congrArg (Value.int .i64) ?_))))))))
   exact indexBy_hit (d := 0) (by omega) ‹_› ‹_›
  ·have c8r := c8
   try simp only [smpE] at c8
   refine sk (qc (cr (ic9 rfl rfl (by omega) ?_)))
   refine mv rfl (ln (kq_round0 ((k + 1)) (by omega) (⟨by omega, any_take_step (d := 0) (by omega) hi3 ‹_›⟩) (pc 8 rfl pn) (pk [0, 1, 7] rfl) slr9))
 ·refine ex9 (qc (cS (cr (sg rfl (ln (qc (rt (kq_retP rfl rfl (congrArg (Value.int .i64) ?_)))))))))
  exact indexBy_none (by omega) ‹_›
theorem cf_int_ok {Hxs : Hp} {vxs : Value} {gp : Nat} {capsp : Array Value} {imp : List Hp} [FnC Tryz.prog gp] (xs : List Int) (p : Int → Bool) (hxs : Ints Hxs vxs xs) (hp : ∀ n : Int, n ∈ xs → SpecP Tryz.prog gp (.int .i64 n :: capsp.toList) imp (.bool (p n))) : SpecP Tryz.prog 81 [vxs, .func (.func gp) #[] capsp] (Hxs :: imp) (.bool (xs.any p)) := by
 refine spec_of Tryz.func81 rfl rfl rfl (fun B => ?_)
 refine cS (cr (sg rfl (ln (qc (cS (cr (mv rfl (mv rfl (cP rfl rfl (ixf_int_ok xs p ‹_› hp) ?_)))))))))
 refine kl_geq rfl rfl ?_
 refine sg rfl (ln (qc (rt (kq_retP rfl rfl (congrArg Value.bool ?_)))))
 exact indexBy_any p xs
theorem allIn1_ok {Hlo : Hp} {ptrlo : Value} {Hhi : Hp} {ptrhi : Value} (n : Int) (lo : Int) (hi : Int) (alo : At Hlo ptrlo [.int .i64 lo]) (ahi : At Hhi ptrhi [.int .i64 hi]) : SpecP Tryz.prog 82 [.int .i64 n, ptrlo, ptrhi] [Hlo, Hhi] (.bool (!withinB n lo hi)) := by
 refine spec_of Tryz.func82 rfl rfl rfl (fun B => ?_)
 refine cS (cr (sg rfl (ln (qc (cS (cr (mv rfl (ld rfl ‹_› (ld rfl ‹_› (cP rfl rfl (within_ok n lo hi) ?_))))))))))
 refine nt9 rfl (sg rfl (ln (qc (rt (kq_retP rfl rfl (congrArg Value.bool ?_))))))
 rfl
theorem allIn_ok {Hxs : Hp} {vxs : Value} (xs : List Int) (lo : Int) (hi : Int) (hxs : Ints Hxs vxs xs) : SpecP Tryz.prog 46 [vxs, .int .i64 lo, .int .i64 hi] [Hxs] (.bool (allInB xs lo hi)) := by
 refine spec_of Tryz.func46 rfl rfl rfl (fun B => ?_)
 refine cS (cr (kl_box rfl rfl (fun p1 H2 f3 a4 => ?_)))
 refine kl_box rfl rfl (fun p5 H6 f7 a8 => ?_)
 refine sg rfl (ln (qc (cS (cr (mv rfl (kl_mkf rfl ?_))))))
 refine cP rfl rfl (cf_int_ok xs (fun x8 => !withinB x8 lo hi) ‹_› (fun x8 _ => allIn1_ok x8 lo hi ‹_› ‹_›)) ?_
 refine nt9 rfl (sg rfl (ln (qc (rt (kq_retP rfl rfl (congrArg Value.bool ?_))))))
 simp [allInB, List.all_eq_not_any_not]
theorem domainsOk_ok {Hds : Hp} {vds : Value} (ds : List Int) (hds : Ints Hds vds ds) : SpecP Tryz.prog 87 [vds] [Hds] (.bool (domainsOkB ds)) := by
 refine spec_of Tryz.func87 rfl rfl rfl (fun B => ?_)
 refine cS (cr (sg rfl (ln (qc (cS (cr (mv rfl (le9 rfl ‹_› (fun l1 => ?_)))))))))
 refine cP rfl rfl (within_ok (ds.length : Int) (1 : Int) (4 : Int)) ?_
 refine mv rfl (jn 3 9 (.bool ((withinB (ds.length : Int) (1 : Int) (4 : Int)) && (allInB ds (0 : Int) (63 : Int)))) (pk [2, 6] rfl) (fun J3 => ?_) ?_)
 ·rcases Bool.eq_false_or_eq_true (withinB (ds.length : Int) (1 : Int) (4 : Int)) with g2 | g2
  ·have g2p := g2
   try simp only [smpD] at g2p
   refine gT rfl rfl g2 (mv rfl (gT rfl rfl g2 (cP rfl rfl (allIn_ok ds (0 : Int) (63 : Int) ‹_›) ?_)))
   refine aT rfl rfl g2 ?_
   exact J3 _ (pk [9, 2, 6] rfl)
  ·refine gF rfl rfl g2 (gF rfl rfl g2 (aF (allInB ds (0 : Int) (63 : Int)) rfl rfl g2 ?_))
   exact J3 _ (pk [9, 2, 6] rfl)
 refine sg rfl (ln (qc (rt (kq_retP rfl rfl (congrArg Value.bool ?_)))))
 rfl
theorem ixf_row_ok {Hxs : Hp} {vxs : Value} {gp : Nat} {capsp : Array Value} {imp : List Hp} [FnC Tryz.prog gp] (xs : List (List Int)) (p : List Int → Bool) (hxs : Rows Hxs vxs xs) (hp : ∀ (H : Hp) (u : Value) (r : List Int), r ∈ xs → Ints H u r → SpecP Tryz.prog gp (u :: capsp.toList) (H :: imp) (.bool (p r))) : SpecP Tryz.prog 197 [vxs, .func (.func gp) #[] capsp] (Hxs :: imp) (.int .i64 (indexBy p xs)) := by
 refine spec_of Tryz.func197 rfl rfl rfl (fun B => ?_)
 refine cS (cr (sg rfl (ln (qc (cS (cS (cr (mv rfl (le9 rfl ‹_› (fun l1 => ?_))))))))))
 refine mv rfl (ln (qc (bl (kc_loop0 (A := Nat) (fun zz => (zz ≤ xs.length) ∧ ((xs.take zz).any p = false)) (fun zz => xs.length - zz) (fun zz => [(8, .int .i64 (zz : Int))]) (0) (pk [0, 1, 7] rfl) (pc 8 rfl pn) ⟨Nat.zero_le _, by simp⟩ ?_))))
 rintro k hJ4
 obtain ⟨hk2, hi3⟩ : (k ≤ xs.length) ∧ ((xs.take k).any p = false) := hJ4
 change KC _ _ (_) _ _ ([(8, .int .i64 (k : Int))] ++ _)
 refine cS (cr (ls9 rfl rfl ?_))
 refine ln (qc (cS (ci9 rfl (fun c5 => ?_) (fun c5 => ?_))))
 ·refine sk (qc (cS (bl (cS (cr (mv rfl (sg rfl (ln (qc (cS (cr (mv rfl ?_))))))))))))
  refine mv rfl (mv rfl (kl_inS rfl rfl ‹_› (by omega) (fun p6 u8 h9 a7 => ?_)))
  refine ld rfl ‹_› (cP rfl rfl (hp _ _ (xs.getD k []) (getD_mem (by omega)) ‹_›) ?_)
  refine ln (qc (cd9 rfl (fun c10 => ?_) (fun c10 => ?_)))
  ·have c10r := c10
   try simp only [smpE] at c10
   refine cS (cr (mv rfl (sg rfl (ln (qc (rt (kq_retP rfl rfl (congrArg (Value.int .i64) ?_))))))))
   exact indexBy_hit (d := []) (by omega) ‹_› ‹_›
  ·have c10r := c10
   try simp only [smpE] at c10
   refine sk (qc (cr (ic9 rfl rfl (by omega) ?_)))
   refine mv rfl (ln (kq_round0 ((k + 1)) (by omega) (⟨by omega, any_take_step (d := []) (by omega) hi3 ‹_›⟩) (pc 8 rfl pn) (pk [0, 1, 7] rfl) slr9))
 ·refine ex9 (qc (cS (cr (sg rfl (ln (qc (rt (kq_retP rfl rfl (congrArg (Value.int .i64) ?_)))))))))
  exact indexBy_none (by omega) ‹_›
theorem cf_row_ok {Hxs : Hp} {vxs : Value} {gp : Nat} {capsp : Array Value} {imp : List Hp} [FnC Tryz.prog gp] (xs : List (List Int)) (p : List Int → Bool) (hxs : Rows Hxs vxs xs) (hp : ∀ (H : Hp) (u : Value) (r : List Int), r ∈ xs → Ints H u r → SpecP Tryz.prog gp (u :: capsp.toList) (H :: imp) (.bool (p r))) : SpecP Tryz.prog 187 [vxs, .func (.func gp) #[] capsp] (Hxs :: imp) (.bool (xs.any p)) := by
 refine spec_of Tryz.func187 rfl rfl rfl (fun B => ?_)
 refine cS (cr (sg rfl (ln (qc (cS (cr (mv rfl (mv rfl (cP rfl rfl (ixf_row_ok xs p ‹_› hp) ?_)))))))))
 refine kl_geq rfl rfl ?_
 refine sg rfl (ln (qc (rt (kq_retP rfl rfl (congrArg Value.bool ?_)))))
 exact indexBy_any p xs
theorem rowsIn1_ok {Hrow : Hp} {vrow : Value} {Hmany : Hp} {ptrmany : Value} {Hlo : Hp} {ptrlo : Value} {Hhi : Hp} {ptrhi : Value} (row : List Int) (many : Int) (lo : Int) (hi : Int) (hrow : Ints Hrow vrow row) (amany : At Hmany ptrmany [.int .i64 many]) (alo : At Hlo ptrlo [.int .i64 lo]) (ahi : At Hhi ptrhi [.int .i64 hi]) : SpecP Tryz.prog 188 [vrow, ptrmany, ptrlo, ptrhi] [Hrow, Hmany, Hlo, Hhi] (.bool (!(decide ((row.length : Int) = many) && allInB row lo hi))) := by
 refine spec_of Tryz.func188 rfl rfl rfl (fun B => ?_)
 refine cS (cr (sg rfl (ln (qc (cS (cr (mv rfl (le9 rfl ‹_› (fun l1 => ?_)))))))))
 refine ld rfl ‹_› (kl_neq rfl rfl ?_)
 refine mv rfl (jn 6 16 (.bool (decide ((row.length : Int) ≠ many) || !(allInB row lo hi))) (pk [5, 10] rfl) (fun J3 => ?_) ?_)
 ·rcases Bool.eq_false_or_eq_true (decide ((row.length : Int) ≠ many)) with g2 | g2
  ·refine gF rfl rfl g2 (gF rfl rfl g2 (gF rfl rfl g2 (gF rfl rfl g2 (gF rfl rfl g2 (oT (!(allInB row lo hi)) rfl rfl g2 ?_)))))
   exact J3 _ (pk [16, 5, 10] rfl)
  ·have g2p := of_decide_eq_false g2
   refine gT rfl rfl g2 (mv rfl (gT rfl rfl g2 (ld rfl ‹_› (gT rfl rfl g2 (ld rfl ‹_› (gT rfl rfl g2 (cP rfl rfl (allIn_ok row lo hi ‹_›) ?_)))))))
   refine gT rfl rfl g2 (nt9 rfl (oF rfl rfl g2 ?_))
   exact J3 _ (pk [16, 5, 10] rfl)
 refine sg rfl (ln (qc (rt (kq_retP rfl rfl (congrArg Value.bool ?_)))))
 simp only [Bool.not_and, decide_not]
theorem rowsIn_ok {Hrows : Hp} {vrows : Value} (rows : List (List Int)) (many : Int) (lo : Int) (hi : Int) (hrows : Rows Hrows vrows rows) : SpecP Tryz.prog 172 [vrows, .int .i64 many, .int .i64 lo, .int .i64 hi] [Hrows] (.bool (withinB rows.length 1 8 && rows.all fun r => decide ((r.length : Int) = many) && allInB r lo hi)) := by
 refine spec_of Tryz.func172 rfl rfl rfl (fun B => ?_)
 refine cS (cr (kl_box rfl rfl (fun p1 H2 f3 a4 => ?_)))
 refine kl_box rfl rfl (fun p5 H6 f7 a8 => ?_)
 refine kl_box rfl rfl (fun p9 H10 f11 a12 => ?_)
 refine sg rfl (ln (qc (cS (cr (mv rfl (le9 rfl ‹_› (fun l13 => ?_)))))))
 refine cP rfl rfl (within_ok (rows.length : Int) (1 : Int) (8 : Int)) ?_
 refine mv rfl (jn 5 17 (.bool ((withinB (rows.length : Int) (1 : Int) (8 : Int)) && !(rows.any (fun x14 => !(decide ((x14.length : Int) = many) && allInB x14 lo hi))))) (pk [8, 12] rfl) (fun J16 => ?_) ?_)
 ·rcases Bool.eq_false_or_eq_true (withinB (rows.length : Int) (1 : Int) (8 : Int)) with g14 | g14
  ·have g14p := g14
   try simp only [smpD] at g14p
   refine gT rfl rfl g14 (mv rfl (gT rfl rfl g14 (kl_mkf rfl ?_)))
   refine gT rfl rfl g14 (cP rfl rfl (cf_row_ok rows (fun x14 => !(decide ((x14.length : Int) = many) && allInB x14 lo hi)) ‹_› (fun _ ux14 x14 _ hux14 => rowsIn1_ok x14 many lo hi hux14 ‹_› ‹_› ‹_›)) ?_)
   refine gT rfl rfl g14 (nt9 rfl (aT rfl rfl g14 ?_))
   exact J16 _ (pk [17, 8, 12] rfl)
  ·refine gF rfl rfl g14 (gF rfl rfl g14 (gF rfl rfl g14 (gF rfl rfl g14 (aF (!(rows.any (fun x14 => !(decide ((x14.length : Int) = many) && allInB x14 lo hi)))) rfl rfl g14 ?_))))
   exact J16 _ (pk [17, 8, 12] rfl)
 refine sg rfl (ln (qc (rt (kq_retP rfl rfl (congrArg Value.bool ?_)))))
 simp only [List.all_eq_not_any_not]
theorem fits1_ok {Hcv : Hp} {vcv : Value} {Hca : Hp} {vca : Value} {Hcr : Hp} {vcr : Value} {Hc : Hp} {ptrc : Value} (many : Int) (lo : Int) (hi : Int) (c : Con) (hcv : Ints Hcv vcv c.vars) (hca : Ints Hca vca c.args) (hcr : Rows Hcr vcr c.rows) (ac : At Hc ptrc [.int .i64 c.kind, vcv, vca, .int .i64 c.bound, vcr]) : SpecP Tryz.prog 171 [.int .i64 many, .int .i64 lo, .int .i64 hi, ptrc] [Hcv, Hca, Hcr, Hc] (.bool (decide ((c.args.length : Int) = many) && allInB c.args lo hi)) := by
 refine spec_of Tryz.func171 rfl rfl rfl (fun B => ?_)
 refine cS (cr (sg rfl (ln (qc (cS (cr (fd9 rfl ‹_› (fun p1 a2 => ?_))))))))
 refine ld rfl ‹_› (le9 rfl ‹_› (fun l3 => ?_))
 refine mv rfl (eq9 rfl rfl ?_)
 refine mv rfl (jn 6 19 (.bool (decide ((c.args.length : Int) = many) && (allInB c.args lo hi))) (pk [7, 13] rfl) (fun J7 => ?_) ?_)
 ·rcases Bool.eq_false_or_eq_true (decide ((c.args.length : Int) = many)) with g4 | g4
  ·have g4p := of_decide_eq_true g4
   refine gT rfl rfl g4 (fd9 rfl ‹_› (fun p5 a6 => ?_))
   refine gT rfl rfl g4 (ld rfl ‹_› (gT rfl rfl g4 (mv rfl (gT rfl rfl g4 (mv rfl (gT rfl rfl g4 (cP rfl rfl (allIn_ok c.args lo hi ‹_›) ?_)))))))
   refine aT rfl rfl g4 ?_
   exact J7 _ (pk [19, 7, 13] rfl)
  ·refine gF rfl rfl g4 (gF rfl rfl g4 (gF rfl rfl g4 (gF rfl rfl g4 (gF rfl rfl g4 (aF (allInB c.args lo hi) rfl rfl g4 ?_)))))
   exact J7 _ (pk [19, 7, 13] rfl)
 refine sg rfl (ln (qc (rt (kq_retP rfl rfl (congrArg Value.bool ?_)))))
 rfl
theorem fits_ok {Hcv : Hp} {vcv : Value} {Hca : Hp} {vca : Value} {Hcr : Hp} {vcr : Value} (c : Con) (hcv : Ints Hcv vcv c.vars) (hca : Ints Hca vca c.args) (hcr : Rows Hcr vcr c.rows) : SpecP Tryz.prog 132 [.agg #[.int .i64 c.kind, vcv, vca, .int .i64 c.bound, vcr]] [Hcv, Hca, Hcr] (.bool (fitsB c)) := by
 refine spec_of Tryz.func132 rfl rfl rfl (fun B => ?_)
 refine cS (cr (kl_box rfl rfl (fun p1 H2 f3 a4 => ?_)))
 refine sg rfl (ln (qc (cS (cr (fd9 rfl ‹_› (fun p5 a6 => ?_))))))
 refine ld rfl ‹_› (le9 rfl ‹_› (fun l7 => ?_))
 refine sg rfl (ln (qc (cS (cr (kl_mkf rfl ?_)))))
 refine sg rfl (ln (qc (cS (kc_draw 9 [true, true, true, true, true, true, true, true, true] (by kernel_rfl) (by kernel_rfl) ?_))))
 refine fd9 rfl ‹_› (fun p8 a9 => ?_)
 refine ld rfl ‹_› (le9 rfl ‹_› (fun l10 => ?_))
 refine eq9 rfl rfl ?_
 refine fd9 rfl ‹_› (fun p11 a12 => ?_)
 refine ld rfl ‹_› (eq9 rfl rfl ?_)
 refine sg rfl (sg rfl (ln (qc (cS (cS (cr (fd9 rfl ‹_› (fun p13 a14 => ?_))))))))
 refine ld rfl ‹_› (ln (qc (bl (cS (cr (eq9 rfl rfl ?_))))))
 refine sg rfl (ln (qc (ci9 rfl (fun c15 => ?_) (fun c15 => ?_))))
 ·refine cS (cr (mv rfl (mv rfl (cP rfl rfl (fits1_ok (c.vars.length : Int) (-9 : Int) (9 : Int) c ‹_› ‹_› ‹_› ‹_›) ?_))))
  refine mv rfl (jn 4 30 (.bool ((decide ((c.args.length : Int) = (c.vars.length : Int)) && allInB c.args (-9 : Int) (9 : Int)) && (withinB c.bound (-999 : Int) (999 : Int)))) (pk [2, 5, 26] rfl) (fun J19 => ?_) ?_)
  ·rcases Bool.eq_false_or_eq_true (decide ((c.args.length : Int) = (c.vars.length : Int)) && allInB c.args (-9 : Int) (9 : Int)) with g16 | g16
   ·have g16p := g16
    try simp only [smpD] at g16p
    refine gT rfl rfl g16 (fd9 rfl ‹_› (fun p17 a18 => ?_))
    refine gT rfl rfl g16 (ld rfl ‹_› (gT rfl rfl g16 (cP rfl rfl (within_ok c.bound (-999 : Int) (999 : Int)) ?_)))
    refine aT rfl rfl g16 ?_
    exact J19 _ (pk [30, 2, 5, 26] rfl)
   ·refine gF rfl rfl g16 (gF rfl rfl g16 (gF rfl rfl g16 (aF (withinB c.bound (-999 : Int) (999 : Int)) rfl rfl g16 ?_)))
    exact J19 _ (pk [30, 2, 5, 26] rfl)
  refine mv rfl (jn 2 33 (.bool (((decide ((c.args.length : Int) = (c.vars.length : Int)) && allInB c.args (-9 : Int) (9 : Int)) && (withinB c.bound (-999 : Int) (999 : Int))) && decide ((c.rows.length : Int) = (0 : Int)))) (pk [2, 31] rfl) (fun J21 => ?_) ?_)
  ·rcases Bool.eq_false_or_eq_true ((decide ((c.args.length : Int) = (c.vars.length : Int)) && allInB c.args (-9 : Int) (9 : Int)) && (withinB c.bound (-999 : Int) (999 : Int))) with g20 | g20
   ·have g20p := g20
    try simp only [smpD] at g20p
    refine gT rfl rfl g20 (mv rfl (aT rfl rfl g20 ?_))
    exact J21 _ (pk [33, 2, 31] rfl)
   ·refine gF rfl rfl g20 (aF (decide ((c.rows.length : Int) = (0 : Int))) rfl rfl g20 ?_)
    exact J21 _ (pk [33, 2, 31] rfl)
  refine sg rfl (ln (qc (rt (kq_retP rfl rfl (congrArg Value.bool ?_)))))
  first | (exfalso; omega) | (simp [fitsB, rowsInB, *])
 ·refine cS (cr (eq9 rfl rfl ?_))
  refine sg rfl (ln (qc (ci9 rfl (fun c22 => ?_) (fun c22 => ?_))))
  ·refine cS (cr (mv rfl (eq9 rfl rfl ?_)))
   refine mv rfl (jn 3 41 (.bool (decide ((c.vars.length : Int) = (2 : Int)) && (decide ((c.args.length : Int) = (1 : Int)) && allInB c.args (-9 : Int) (9 : Int)))) (pk [2, 5, 6, 38] rfl) (fun J24 => ?_) ?_)
   ·rcases Bool.eq_false_or_eq_true (decide ((c.vars.length : Int) = (2 : Int))) with g23 | g23
    ·have g23p := of_decide_eq_true g23
     refine gT rfl rfl g23 (mv rfl (gT rfl rfl g23 (cP rfl rfl (fits1_ok (1 : Int) (-9 : Int) (9 : Int) c ‹_› ‹_› ‹_› ‹_›) ?_)))
     refine aT rfl rfl g23 ?_
     exact J24 _ (pk [41, 2, 5, 6, 38] rfl)
    ·refine gF rfl rfl g23 (gF rfl rfl g23 (aF (decide ((c.args.length : Int) = (1 : Int)) && allInB c.args (-9 : Int) (9 : Int)) rfl rfl g23 ?_))
     exact J24 _ (pk [41, 2, 5, 6, 38] rfl)
   refine mv rfl (jn 2 44 (.bool ((decide ((c.vars.length : Int) = (2 : Int)) && (decide ((c.args.length : Int) = (1 : Int)) && allInB c.args (-9 : Int) (9 : Int))) && decide (c.bound = (0 : Int)))) (pk [2, 5, 42] rfl) (fun J26 => ?_) ?_)
   ·rcases Bool.eq_false_or_eq_true (decide ((c.vars.length : Int) = (2 : Int)) && (decide ((c.args.length : Int) = (1 : Int)) && allInB c.args (-9 : Int) (9 : Int))) with g25 | g25
    ·have g25p := g25
     try simp only [smpD] at g25p
     refine gT rfl rfl g25 (mv rfl (aT rfl rfl g25 ?_))
     exact J26 _ (pk [44, 2, 5, 42] rfl)
    ·refine gF rfl rfl g25 (aF (decide (c.bound = (0 : Int))) rfl rfl g25 ?_)
     exact J26 _ (pk [44, 2, 5, 42] rfl)
   refine mv rfl (jn 2 47 (.bool (((decide ((c.vars.length : Int) = (2 : Int)) && (decide ((c.args.length : Int) = (1 : Int)) && allInB c.args (-9 : Int) (9 : Int))) && decide (c.bound = (0 : Int))) && decide ((c.rows.length : Int) = (0 : Int)))) (pk [2, 45] rfl) (fun J28 => ?_) ?_)
   ·rcases Bool.eq_false_or_eq_true ((decide ((c.vars.length : Int) = (2 : Int)) && (decide ((c.args.length : Int) = (1 : Int)) && allInB c.args (-9 : Int) (9 : Int))) && decide (c.bound = (0 : Int))) with g27 | g27
    ·have g27p := g27
     try simp only [smpD] at g27p
     refine gT rfl rfl g27 (mv rfl (aT rfl rfl g27 ?_))
     exact J28 _ (pk [47, 2, 45] rfl)
    ·refine gF rfl rfl g27 (aF (decide ((c.rows.length : Int) = (0 : Int))) rfl rfl g27 ?_)
     exact J28 _ (pk [47, 2, 45] rfl)
   refine sg rfl (ln (qc (rt (kq_retP rfl rfl (congrArg Value.bool ?_)))))
   first | (exfalso; omega) | (simp [fitsB, rowsInB, *])
  ·refine cS (cS (cr (eq9 rfl rfl ?_)))
   refine sg rfl (ln (qc (ci9 rfl (fun c29 => ?_) (fun c29 => ?_))))
   ·refine sk (qc (ci9 rfl (fun c30 => ?_) (fun c30 => ?_)))
    ·refine cS (cr (fd9 rfl ‹_› (fun p31 a32 => ?_)))
     refine ld rfl ‹_› (le9 rfl ‹_› (fun l33 => ?_))
     refine eq9 rfl rfl ?_
     refine mv rfl (jn 2 57 (.bool (decide ((c.args.length : Int) = (0 : Int)) && decide (c.bound = (0 : Int)))) (pk [2, 5, 55] rfl) (fun J35 => ?_) ?_)
     ·rcases Bool.eq_false_or_eq_true (decide ((c.args.length : Int) = (0 : Int))) with g34 | g34
      ·have g34p := of_decide_eq_true g34
       refine gT rfl rfl g34 (mv rfl (aT rfl rfl g34 ?_))
       exact J35 _ (pk [57, 2, 5, 55] rfl)
      ·refine gF rfl rfl g34 (aF (decide (c.bound = (0 : Int))) rfl rfl g34 ?_)
       exact J35 _ (pk [57, 2, 5, 55] rfl)
     refine mv rfl (jn 2 60 (.bool ((decide ((c.args.length : Int) = (0 : Int)) && decide (c.bound = (0 : Int))) && decide ((c.rows.length : Int) = (0 : Int)))) (pk [2, 58] rfl) (fun J37 => ?_) ?_)
     ·rcases Bool.eq_false_or_eq_true (decide ((c.args.length : Int) = (0 : Int)) && decide (c.bound = (0 : Int))) with g36 | g36
      ·have g36p := g36
       try simp only [smpD] at g36p
       refine gT rfl rfl g36 (mv rfl (aT rfl rfl g36 ?_))
       exact J37 _ (pk [60, 2, 58] rfl)
      ·refine gF rfl rfl g36 (aF (decide ((c.rows.length : Int) = (0 : Int))) rfl rfl g36 ?_)
       exact J37 _ (pk [60, 2, 58] rfl)
     refine sg rfl (ln (qc (rt (kq_retP rfl rfl (congrArg Value.bool ?_)))))
     first | (exfalso; omega) | (simp [fitsB, rowsInB, *])
    ·refine cS (cr (eq9 rfl rfl ?_))
     refine sg rfl (ln (qc (ci9 rfl (fun c38 => ?_) (fun c38 => ?_))))
     ·refine cS (cr (mv rfl (eq9 rfl rfl ?_)))
      refine mv rfl (jn 5 70 (.bool (decide ((c.vars.length : Int) = (2 : Int)) && (withinB (c.args.length : Int) (1 : Int) (6 : Int)))) (pk [1, 2, 5, 6, 65] rfl) (fun J43 => ?_) ?_)
      ·rcases Bool.eq_false_or_eq_true (decide ((c.vars.length : Int) = (2 : Int))) with g39 | g39
       ·have g39p := of_decide_eq_true g39
        refine gT rfl rfl g39 (fd9 rfl ‹_› (fun p40 a41 => ?_))
        refine gT rfl rfl g39 (ld rfl ‹_› (gT rfl rfl g39 (le9 rfl ‹_› (fun l42 => ?_))))
        refine gT rfl rfl g39 (cP rfl rfl (within_ok (c.args.length : Int) (1 : Int) (6 : Int)) ?_)
        refine aT rfl rfl g39 ?_
        exact J43 _ (pk [70, 1, 2, 5, 6, 65] rfl)
       ·refine gF rfl rfl g39 (gF rfl rfl g39 (gF rfl rfl g39 (gF rfl rfl g39 (aF (withinB (c.args.length : Int) (1 : Int) (6 : Int)) rfl rfl g39 ?_))))
        exact J43 _ (pk [70, 1, 2, 5, 6, 65] rfl)
      refine mv rfl (jn 4 75 (.bool ((decide ((c.vars.length : Int) = (2 : Int)) && (withinB (c.args.length : Int) (1 : Int) (6 : Int))) && (allInB c.args (0 : Int) (5 : Int)))) (pk [2, 5, 6, 71] rfl) (fun J47 => ?_) ?_)
      ·rcases Bool.eq_false_or_eq_true (decide ((c.vars.length : Int) = (2 : Int)) && (withinB (c.args.length : Int) (1 : Int) (6 : Int))) with g44 | g44
       ·have g44p := g44
        try simp only [smpD] at g44p
        refine gT rfl rfl g44 (fd9 rfl ‹_› (fun p45 a46 => ?_))
        refine gT rfl rfl g44 (ld rfl ‹_› (gT rfl rfl g44 (cP rfl rfl (allIn_ok c.args (0 : Int) (5 : Int) ‹_›) ?_)))
        refine aT rfl rfl g44 ?_
        exact J47 _ (pk [75, 2, 5, 6, 71] rfl)
       ·refine gF rfl rfl g44 (gF rfl rfl g44 (gF rfl rfl g44 (aF (allInB c.args (0 : Int) (5 : Int)) rfl rfl g44 ?_)))
        exact J47 _ (pk [75, 2, 5, 6, 71] rfl)
      refine mv rfl (jn 2 78 (.bool (((decide ((c.vars.length : Int) = (2 : Int)) && (withinB (c.args.length : Int) (1 : Int) (6 : Int))) && (allInB c.args (0 : Int) (5 : Int))) && decide (c.bound = (0 : Int)))) (pk [2, 5, 76] rfl) (fun J49 => ?_) ?_)
      ·rcases Bool.eq_false_or_eq_true ((decide ((c.vars.length : Int) = (2 : Int)) && (withinB (c.args.length : Int) (1 : Int) (6 : Int))) && (allInB c.args (0 : Int) (5 : Int))) with g48 | g48
       ·have g48p := g48
        try simp only [smpD] at g48p
        refine gT rfl rfl g48 (mv rfl (aT rfl rfl g48 ?_))
        exact J49 _ (pk [78, 2, 5, 76] rfl)
       ·refine gF rfl rfl g48 (aF (decide (c.bound = (0 : Int))) rfl rfl g48 ?_)
        exact J49 _ (pk [78, 2, 5, 76] rfl)
      refine mv rfl (jn 2 81 (.bool ((((decide ((c.vars.length : Int) = (2 : Int)) && (withinB (c.args.length : Int) (1 : Int) (6 : Int))) && (allInB c.args (0 : Int) (5 : Int))) && decide (c.bound = (0 : Int))) && decide ((c.rows.length : Int) = (0 : Int)))) (pk [2, 79] rfl) (fun J51 => ?_) ?_)
      ·rcases Bool.eq_false_or_eq_true (((decide ((c.vars.length : Int) = (2 : Int)) && (withinB (c.args.length : Int) (1 : Int) (6 : Int))) && (allInB c.args (0 : Int) (5 : Int))) && decide (c.bound = (0 : Int))) with g50 | g50
       ·have g50p := g50
        try simp only [smpD] at g50p
        refine gT rfl rfl g50 (mv rfl (aT rfl rfl g50 ?_))
        exact J51 _ (pk [81, 2, 79] rfl)
       ·refine gF rfl rfl g50 (aF (decide ((c.rows.length : Int) = (0 : Int))) rfl rfl g50 ?_)
        exact J51 _ (pk [81, 2, 79] rfl)
      refine sg rfl (ln (qc (rt (kq_retP rfl rfl (congrArg Value.bool ?_)))))
      first | (exfalso; omega) | (simp [fitsB, rowsInB, *])
     ·refine cS (cr (eq9 rfl rfl ?_))
      refine sg rfl (ln (qc (ci9 rfl (fun c52 => ?_) (fun c52 => ?_))))
      ·refine cS (cr (fd9 rfl ‹_› (fun p53 a54 => ?_)))
       refine ld rfl ‹_› (le9 rfl ‹_› (fun l55 => ?_))
       refine eq9 rfl rfl ?_
       refine mv rfl (jn 2 90 (.bool (decide ((c.args.length : Int) = (0 : Int)) && decide (c.bound = (0 : Int)))) (pk [1, 2, 3, 88] rfl) (fun J57 => ?_) ?_)
       ·rcases Bool.eq_false_or_eq_true (decide ((c.args.length : Int) = (0 : Int))) with g56 | g56
        ·have g56p := of_decide_eq_true g56
         refine gT rfl rfl g56 (mv rfl (aT rfl rfl g56 ?_))
         exact J57 _ (pk [90, 1, 2, 3, 88] rfl)
        ·refine gF rfl rfl g56 (aF (decide (c.bound = (0 : Int))) rfl rfl g56 ?_)
         exact J57 _ (pk [90, 1, 2, 3, 88] rfl)
       refine mv rfl (jn 5 96 (.bool ((decide ((c.args.length : Int) = (0 : Int)) && decide (c.bound = (0 : Int))) && (withinB c.rows.length 1 8 && c.rows.all fun r => decide ((r.length : Int) = (c.vars.length : Int)) && allInB r (0 : Int) (5 : Int)))) (pk [2, 91] rfl) (fun J61 => ?_) ?_)
       ·rcases Bool.eq_false_or_eq_true (decide ((c.args.length : Int) = (0 : Int)) && decide (c.bound = (0 : Int))) with g58 | g58
        ·have g58p := g58
         try simp only [smpD] at g58p
         refine gT rfl rfl g58 (fd9 rfl ‹_› (fun p59 a60 => ?_))
         refine gT rfl rfl g58 (ld rfl ‹_› (gT rfl rfl g58 (mv rfl (gT rfl rfl g58 (cP rfl rfl (rowsIn_ok c.rows (c.vars.length : Int) (0 : Int) (5 : Int) ‹_›) ?_)))))
         refine aT rfl rfl g58 ?_
         exact J61 _ (pk [96, 2, 91] rfl)
        ·refine gF rfl rfl g58 (gF rfl rfl g58 (gF rfl rfl g58 (gF rfl rfl g58 (aF (withinB c.rows.length 1 8 && c.rows.all fun r => decide ((r.length : Int) = (c.vars.length : Int)) && allInB r (0 : Int) (5 : Int)) rfl rfl g58 ?_))))
         exact J61 _ (pk [96, 2, 91] rfl)
       refine sg rfl (ln (qc (rt (kq_retP rfl rfl (congrArg Value.bool ?_)))))
       first | (exfalso; omega) | (simp [fitsB, rowsInB, *])
      ·refine cS (cr (eq9 rfl rfl ?_))
       refine sg rfl (ln (qc (ci9 rfl (fun c62 => ?_) (fun c62 => ?_))))
       ·refine cS (cr (mv rfl (cP rfl rfl (fits1_ok (1 : Int) (0 : Int) (5 : Int) c ‹_› ‹_› ‹_› ‹_›) ?_)))
        refine mv rfl (jn 4 105 (.bool ((decide ((c.args.length : Int) = (1 : Int)) && allInB c.args (0 : Int) (5 : Int)) && (withinB c.bound (0 : Int) (4 : Int)))) (pk [2, 5, 101] rfl) (fun J66 => ?_) ?_)
        ·rcases Bool.eq_false_or_eq_true (decide ((c.args.length : Int) = (1 : Int)) && allInB c.args (0 : Int) (5 : Int)) with g63 | g63
         ·have g63p := g63
          try simp only [smpD] at g63p
          refine gT rfl rfl g63 (fd9 rfl ‹_› (fun p64 a65 => ?_))
          refine gT rfl rfl g63 (ld rfl ‹_› (gT rfl rfl g63 (cP rfl rfl (within_ok c.bound (0 : Int) (4 : Int)) ?_)))
          refine aT rfl rfl g63 ?_
          exact J66 _ (pk [105, 2, 5, 101] rfl)
         ·refine gF rfl rfl g63 (gF rfl rfl g63 (gF rfl rfl g63 (aF (withinB c.bound (0 : Int) (4 : Int)) rfl rfl g63 ?_)))
          exact J66 _ (pk [105, 2, 5, 101] rfl)
        refine mv rfl (jn 2 108 (.bool (((decide ((c.args.length : Int) = (1 : Int)) && allInB c.args (0 : Int) (5 : Int)) && (withinB c.bound (0 : Int) (4 : Int))) && decide ((c.rows.length : Int) = (0 : Int)))) (pk [2, 106] rfl) (fun J68 => ?_) ?_)
        ·rcases Bool.eq_false_or_eq_true ((decide ((c.args.length : Int) = (1 : Int)) && allInB c.args (0 : Int) (5 : Int)) && (withinB c.bound (0 : Int) (4 : Int))) with g67 | g67
         ·have g67p := g67
          try simp only [smpD] at g67p
          refine gT rfl rfl g67 (mv rfl (aT rfl rfl g67 ?_))
          exact J68 _ (pk [108, 2, 106] rfl)
         ·refine gF rfl rfl g67 (aF (decide ((c.rows.length : Int) = (0 : Int))) rfl rfl g67 ?_)
          exact J68 _ (pk [108, 2, 106] rfl)
        refine sg rfl (ln (qc (rt (kq_retP rfl rfl (congrArg Value.bool ?_)))))
        first | (exfalso; omega) | (simp [fitsB, rowsInB, *])
       ·refine cS (cr (eq9 rfl rfl ?_))
        refine sg rfl (ln (qc (ci9 rfl (fun c69 => ?_) (fun c69 => ?_))))
        ·refine cS (cr (mv rfl (mv rfl (kl_mul rfl rfl (by omega) ?_))))
         refine cP rfl rfl (fits1_ok ((2 : Int) * (c.vars.length : Int)) (0 : Int) (9 : Int) c ‹_› ‹_› ‹_› ‹_›) ?_
         refine mv rfl (jn 4 119 (.bool ((decide ((c.args.length : Int) = ((2 : Int) * (c.vars.length : Int))) && allInB c.args (0 : Int) (9 : Int)) && (withinB c.bound (0 : Int) (9 : Int)))) (pk [2, 5, 115] rfl) (fun J73 => ?_) ?_)
         ·rcases Bool.eq_false_or_eq_true (decide ((c.args.length : Int) = ((2 : Int) * (c.vars.length : Int))) && allInB c.args (0 : Int) (9 : Int)) with g70 | g70
          ·have g70p := g70
           try simp only [smpD] at g70p
           refine gT rfl rfl g70 (fd9 rfl ‹_› (fun p71 a72 => ?_))
           refine gT rfl rfl g70 (ld rfl ‹_› (gT rfl rfl g70 (cP rfl rfl (within_ok c.bound (0 : Int) (9 : Int)) ?_)))
           refine aT rfl rfl g70 ?_
           exact J73 _ (pk [119, 2, 5, 115] rfl)
          ·refine gF rfl rfl g70 (gF rfl rfl g70 (gF rfl rfl g70 (aF (withinB c.bound (0 : Int) (9 : Int)) rfl rfl g70 ?_)))
           exact J73 _ (pk [119, 2, 5, 115] rfl)
         refine mv rfl (jn 2 122 (.bool (((decide ((c.args.length : Int) = ((2 : Int) * (c.vars.length : Int))) && allInB c.args (0 : Int) (9 : Int)) && (withinB c.bound (0 : Int) (9 : Int))) && decide ((c.rows.length : Int) = (0 : Int)))) (pk [2, 120] rfl) (fun J75 => ?_) ?_)
         ·rcases Bool.eq_false_or_eq_true ((decide ((c.args.length : Int) = ((2 : Int) * (c.vars.length : Int))) && allInB c.args (0 : Int) (9 : Int)) && (withinB c.bound (0 : Int) (9 : Int))) with g74 | g74
          ·have g74p := g74
           try simp only [smpD] at g74p
           refine gT rfl rfl g74 (mv rfl (aT rfl rfl g74 ?_))
           exact J75 _ (pk [122, 2, 120] rfl)
          ·refine gF rfl rfl g74 (aF (decide ((c.rows.length : Int) = (0 : Int))) rfl rfl g74 ?_)
           exact J75 _ (pk [122, 2, 120] rfl)
         refine sg rfl (ln (qc (rt (kq_retP rfl rfl (congrArg Value.bool ?_)))))
         first | (exfalso; omega) | (simp [fitsB, rowsInB, *])
        ·refine cS (cr (eq9 rfl rfl ?_))
         refine sg rfl (ln (qc (ci9 rfl (fun c76 => ?_) (fun c76 => ?_))))
         ·refine cS (cr (fd9 rfl ‹_› (fun p77 a78 => ?_)))
          refine ld rfl ‹_› (le9 rfl ‹_› (fun l79 => ?_))
          refine sb9 rfl rfl (by omega) ?_
          refine sg rfl (ln (qc (cS (cr (fd9 rfl ‹_› (fun p80 a81 => ?_))))))
          refine ld rfl ‹_› (mv rfl (cP rfl rfl (rowsIn_ok c.rows (6 : Int) (-1 : Int) ((c.rows.length : Int) - (1 : Int)) ‹_›) ?_))
          refine mv rfl (jn 4 137 (.bool ((withinB c.rows.length 1 8 && c.rows.all fun r => decide ((r.length : Int) = (6 : Int)) && allInB r (-1 : Int) ((c.rows.length : Int) - (1 : Int))) && (distinctB c.args))) (pk [1, 2, 6, 7, 133] rfl) (fun J85 => ?_) ?_)
          ·rcases Bool.eq_false_or_eq_true (withinB c.rows.length 1 8 && c.rows.all fun r => decide ((r.length : Int) = (6 : Int)) && allInB r (-1 : Int) ((c.rows.length : Int) - (1 : Int))) with g82 | g82
           ·have g82p := g82
            try simp only [smpD] at g82p
            refine gT rfl rfl g82 (fd9 rfl ‹_› (fun p83 a84 => ?_))
            refine gT rfl rfl g82 (ld rfl ‹_› (gT rfl rfl g82 (cP rfl rfl (distinct_ok c.args ‹_›) ?_)))
            refine aT rfl rfl g82 ?_
            exact J85 _ (pk [137, 1, 2, 6, 7, 133] rfl)
           ·refine gF rfl rfl g82 (gF rfl rfl g82 (gF rfl rfl g82 (aF (distinctB c.args) rfl rfl g82 ?_)))
            exact J85 _ (pk [137, 1, 2, 6, 7, 133] rfl)
          refine mv rfl (jn 5 143 (.bool (((withinB c.rows.length 1 8 && c.rows.all fun r => decide ((r.length : Int) = (6 : Int)) && allInB r (-1 : Int) ((c.rows.length : Int) - (1 : Int))) && (distinctB c.args)) && (allInB c.args (0 : Int) ((c.rows.length : Int) - (1 : Int))))) (pk [2, 6, 138] rfl) (fun J89 => ?_) ?_)
          ·rcases Bool.eq_false_or_eq_true ((withinB c.rows.length 1 8 && c.rows.all fun r => decide ((r.length : Int) = (6 : Int)) && allInB r (-1 : Int) ((c.rows.length : Int) - (1 : Int))) && (distinctB c.args)) with g86 | g86
           ·have g86p := g86
            try simp only [smpD] at g86p
            refine gT rfl rfl g86 (fd9 rfl ‹_› (fun p87 a88 => ?_))
            refine gT rfl rfl g86 (ld rfl ‹_› (gT rfl rfl g86 (mv rfl (gT rfl rfl g86 (cP rfl rfl (allIn_ok c.args (0 : Int) ((c.rows.length : Int) - (1 : Int)) ‹_›) ?_)))))
            refine aT rfl rfl g86 ?_
            exact J89 _ (pk [143, 2, 6, 138] rfl)
           ·refine gF rfl rfl g86 (gF rfl rfl g86 (gF rfl rfl g86 (gF rfl rfl g86 (aF (allInB c.args (0 : Int) ((c.rows.length : Int) - (1 : Int))) rfl rfl g86 ?_))))
            exact J89 _ (pk [143, 2, 6, 138] rfl)
          refine mv rfl (jn 2 146 (.bool ((((withinB c.rows.length 1 8 && c.rows.all fun r => decide ((r.length : Int) = (6 : Int)) && allInB r (-1 : Int) ((c.rows.length : Int) - (1 : Int))) && (distinctB c.args)) && (allInB c.args (0 : Int) ((c.rows.length : Int) - (1 : Int)))) && decide (c.bound = (0 : Int)))) (pk [2, 144] rfl) (fun J91 => ?_) ?_)
          ·rcases Bool.eq_false_or_eq_true (((withinB c.rows.length 1 8 && c.rows.all fun r => decide ((r.length : Int) = (6 : Int)) && allInB r (-1 : Int) ((c.rows.length : Int) - (1 : Int))) && (distinctB c.args)) && (allInB c.args (0 : Int) ((c.rows.length : Int) - (1 : Int)))) with g90 | g90
           ·have g90p := g90
            try simp only [smpD] at g90p
            refine gT rfl rfl g90 (mv rfl (aT rfl rfl g90 ?_))
            exact J91 _ (pk [146, 2, 144] rfl)
           ·refine gF rfl rfl g90 (aF (decide (c.bound = (0 : Int))) rfl rfl g90 ?_)
            exact J91 _ (pk [146, 2, 144] rfl)
          refine sg rfl (ln (qc (rt (kq_retP rfl rfl (congrArg Value.bool ?_)))))
          first | (exfalso; omega) | (simp [fitsB, rowsInB, *])
         ·refine sk (qc (cS (cr (sg rfl (ln (qc (rt (kq_retP rfl rfl (congrArg Value.bool ?_)))))))))
          first | (exfalso; omega) | (simp [fitsB, rowsInB, *])
   ·refine cr (eq9 rfl rfl ?_)
    refine sg rfl (ln (qc (ci9 rfl (fun c92 => ?_) (fun c92 => ?_))))
    ·refine cS (cr (fd9 rfl ‹_› (fun p93 a94 => ?_)))
     refine ld rfl ‹_› (le9 rfl ‹_› (fun l95 => ?_))
     refine eq9 rfl rfl ?_
     refine mv rfl (jn 2 57 (.bool (decide ((c.args.length : Int) = (0 : Int)) && decide (c.bound = (0 : Int)))) (pk [2, 5, 55] rfl) (fun J97 => ?_) ?_)
     ·rcases Bool.eq_false_or_eq_true (decide ((c.args.length : Int) = (0 : Int))) with g96 | g96
      ·have g96p := of_decide_eq_true g96
       refine gT rfl rfl g96 (mv rfl (aT rfl rfl g96 ?_))
       exact J97 _ (pk [57, 2, 5, 55] rfl)
      ·refine gF rfl rfl g96 (aF (decide (c.bound = (0 : Int))) rfl rfl g96 ?_)
       exact J97 _ (pk [57, 2, 5, 55] rfl)
     refine mv rfl (jn 2 60 (.bool ((decide ((c.args.length : Int) = (0 : Int)) && decide (c.bound = (0 : Int))) && decide ((c.rows.length : Int) = (0 : Int)))) (pk [2, 58] rfl) (fun J99 => ?_) ?_)
     ·rcases Bool.eq_false_or_eq_true (decide ((c.args.length : Int) = (0 : Int)) && decide (c.bound = (0 : Int))) with g98 | g98
      ·have g98p := g98
       try simp only [smpD] at g98p
       refine gT rfl rfl g98 (mv rfl (aT rfl rfl g98 ?_))
       exact J99 _ (pk [60, 2, 58] rfl)
      ·refine gF rfl rfl g98 (aF (decide ((c.rows.length : Int) = (0 : Int))) rfl rfl g98 ?_)
       exact J99 _ (pk [60, 2, 58] rfl)
     refine sg rfl (ln (qc (rt (kq_retP rfl rfl (congrArg Value.bool ?_)))))
     first | (exfalso; omega) | (simp [fitsB, rowsInB, *])
    ·refine cS (cr (eq9 rfl rfl ?_))
     refine sg rfl (ln (qc (ci9 rfl (fun c100 => ?_) (fun c100 => ?_))))
     ·refine cS (cr (mv rfl (eq9 rfl rfl ?_)))
      refine mv rfl (jn 5 70 (.bool (decide ((c.vars.length : Int) = (2 : Int)) && (withinB (c.args.length : Int) (1 : Int) (6 : Int)))) (pk [1, 2, 5, 6, 65] rfl) (fun J105 => ?_) ?_)
      ·rcases Bool.eq_false_or_eq_true (decide ((c.vars.length : Int) = (2 : Int))) with g101 | g101
       ·have g101p := of_decide_eq_true g101
        refine gT rfl rfl g101 (fd9 rfl ‹_› (fun p102 a103 => ?_))
        refine gT rfl rfl g101 (ld rfl ‹_› (gT rfl rfl g101 (le9 rfl ‹_› (fun l104 => ?_))))
        refine gT rfl rfl g101 (cP rfl rfl (within_ok (c.args.length : Int) (1 : Int) (6 : Int)) ?_)
        refine aT rfl rfl g101 ?_
        exact J105 _ (pk [70, 1, 2, 5, 6, 65] rfl)
       ·refine gF rfl rfl g101 (gF rfl rfl g101 (gF rfl rfl g101 (gF rfl rfl g101 (aF (withinB (c.args.length : Int) (1 : Int) (6 : Int)) rfl rfl g101 ?_))))
        exact J105 _ (pk [70, 1, 2, 5, 6, 65] rfl)
      refine mv rfl (jn 4 75 (.bool ((decide ((c.vars.length : Int) = (2 : Int)) && (withinB (c.args.length : Int) (1 : Int) (6 : Int))) && (allInB c.args (0 : Int) (5 : Int)))) (pk [2, 5, 6, 71] rfl) (fun J109 => ?_) ?_)
      ·rcases Bool.eq_false_or_eq_true (decide ((c.vars.length : Int) = (2 : Int)) && (withinB (c.args.length : Int) (1 : Int) (6 : Int))) with g106 | g106
       ·have g106p := g106
        try simp only [smpD] at g106p
        refine gT rfl rfl g106 (fd9 rfl ‹_› (fun p107 a108 => ?_))
        refine gT rfl rfl g106 (ld rfl ‹_› (gT rfl rfl g106 (cP rfl rfl (allIn_ok c.args (0 : Int) (5 : Int) ‹_›) ?_)))
        refine aT rfl rfl g106 ?_
        exact J109 _ (pk [75, 2, 5, 6, 71] rfl)
       ·refine gF rfl rfl g106 (gF rfl rfl g106 (gF rfl rfl g106 (aF (allInB c.args (0 : Int) (5 : Int)) rfl rfl g106 ?_)))
        exact J109 _ (pk [75, 2, 5, 6, 71] rfl)
      refine mv rfl (jn 2 78 (.bool (((decide ((c.vars.length : Int) = (2 : Int)) && (withinB (c.args.length : Int) (1 : Int) (6 : Int))) && (allInB c.args (0 : Int) (5 : Int))) && decide (c.bound = (0 : Int)))) (pk [2, 5, 76] rfl) (fun J111 => ?_) ?_)
      ·rcases Bool.eq_false_or_eq_true ((decide ((c.vars.length : Int) = (2 : Int)) && (withinB (c.args.length : Int) (1 : Int) (6 : Int))) && (allInB c.args (0 : Int) (5 : Int))) with g110 | g110
       ·have g110p := g110
        try simp only [smpD] at g110p
        refine gT rfl rfl g110 (mv rfl (aT rfl rfl g110 ?_))
        exact J111 _ (pk [78, 2, 5, 76] rfl)
       ·refine gF rfl rfl g110 (aF (decide (c.bound = (0 : Int))) rfl rfl g110 ?_)
        exact J111 _ (pk [78, 2, 5, 76] rfl)
      refine mv rfl (jn 2 81 (.bool ((((decide ((c.vars.length : Int) = (2 : Int)) && (withinB (c.args.length : Int) (1 : Int) (6 : Int))) && (allInB c.args (0 : Int) (5 : Int))) && decide (c.bound = (0 : Int))) && decide ((c.rows.length : Int) = (0 : Int)))) (pk [2, 79] rfl) (fun J113 => ?_) ?_)
      ·rcases Bool.eq_false_or_eq_true (((decide ((c.vars.length : Int) = (2 : Int)) && (withinB (c.args.length : Int) (1 : Int) (6 : Int))) && (allInB c.args (0 : Int) (5 : Int))) && decide (c.bound = (0 : Int))) with g112 | g112
       ·have g112p := g112
        try simp only [smpD] at g112p
        refine gT rfl rfl g112 (mv rfl (aT rfl rfl g112 ?_))
        exact J113 _ (pk [81, 2, 79] rfl)
       ·refine gF rfl rfl g112 (aF (decide ((c.rows.length : Int) = (0 : Int))) rfl rfl g112 ?_)
        exact J113 _ (pk [81, 2, 79] rfl)
      refine sg rfl (ln (qc (rt (kq_retP rfl rfl (congrArg Value.bool ?_)))))
      first | (exfalso; omega) | (simp [fitsB, rowsInB, *])
     ·refine cS (cr (eq9 rfl rfl ?_))
      refine sg rfl (ln (qc (ci9 rfl (fun c114 => ?_) (fun c114 => ?_))))
      ·refine cS (cr (fd9 rfl ‹_› (fun p115 a116 => ?_)))
       refine ld rfl ‹_› (le9 rfl ‹_› (fun l117 => ?_))
       refine eq9 rfl rfl ?_
       refine mv rfl (jn 2 90 (.bool (decide ((c.args.length : Int) = (0 : Int)) && decide (c.bound = (0 : Int)))) (pk [1, 2, 3, 88] rfl) (fun J119 => ?_) ?_)
       ·rcases Bool.eq_false_or_eq_true (decide ((c.args.length : Int) = (0 : Int))) with g118 | g118
        ·have g118p := of_decide_eq_true g118
         refine gT rfl rfl g118 (mv rfl (aT rfl rfl g118 ?_))
         exact J119 _ (pk [90, 1, 2, 3, 88] rfl)
        ·refine gF rfl rfl g118 (aF (decide (c.bound = (0 : Int))) rfl rfl g118 ?_)
         exact J119 _ (pk [90, 1, 2, 3, 88] rfl)
       refine mv rfl (jn 5 96 (.bool ((decide ((c.args.length : Int) = (0 : Int)) && decide (c.bound = (0 : Int))) && (withinB c.rows.length 1 8 && c.rows.all fun r => decide ((r.length : Int) = (c.vars.length : Int)) && allInB r (0 : Int) (5 : Int)))) (pk [2, 91] rfl) (fun J123 => ?_) ?_)
       ·rcases Bool.eq_false_or_eq_true (decide ((c.args.length : Int) = (0 : Int)) && decide (c.bound = (0 : Int))) with g120 | g120
        ·have g120p := g120
         try simp only [smpD] at g120p
         refine gT rfl rfl g120 (fd9 rfl ‹_› (fun p121 a122 => ?_))
         refine gT rfl rfl g120 (ld rfl ‹_› (gT rfl rfl g120 (mv rfl (gT rfl rfl g120 (cP rfl rfl (rowsIn_ok c.rows (c.vars.length : Int) (0 : Int) (5 : Int) ‹_›) ?_)))))
         refine aT rfl rfl g120 ?_
         exact J123 _ (pk [96, 2, 91] rfl)
        ·refine gF rfl rfl g120 (gF rfl rfl g120 (gF rfl rfl g120 (gF rfl rfl g120 (aF (withinB c.rows.length 1 8 && c.rows.all fun r => decide ((r.length : Int) = (c.vars.length : Int)) && allInB r (0 : Int) (5 : Int)) rfl rfl g120 ?_))))
         exact J123 _ (pk [96, 2, 91] rfl)
       refine sg rfl (ln (qc (rt (kq_retP rfl rfl (congrArg Value.bool ?_)))))
       first | (exfalso; omega) | (simp [fitsB, rowsInB, *])
      ·refine cS (cr (eq9 rfl rfl ?_))
       refine sg rfl (ln (qc (ci9 rfl (fun c124 => ?_) (fun c124 => ?_))))
       ·refine cS (cr (mv rfl (cP rfl rfl (fits1_ok (1 : Int) (0 : Int) (5 : Int) c ‹_› ‹_› ‹_› ‹_›) ?_)))
        refine mv rfl (jn 4 105 (.bool ((decide ((c.args.length : Int) = (1 : Int)) && allInB c.args (0 : Int) (5 : Int)) && (withinB c.bound (0 : Int) (4 : Int)))) (pk [2, 5, 101] rfl) (fun J128 => ?_) ?_)
        ·rcases Bool.eq_false_or_eq_true (decide ((c.args.length : Int) = (1 : Int)) && allInB c.args (0 : Int) (5 : Int)) with g125 | g125
         ·have g125p := g125
          try simp only [smpD] at g125p
          refine gT rfl rfl g125 (fd9 rfl ‹_› (fun p126 a127 => ?_))
          refine gT rfl rfl g125 (ld rfl ‹_› (gT rfl rfl g125 (cP rfl rfl (within_ok c.bound (0 : Int) (4 : Int)) ?_)))
          refine aT rfl rfl g125 ?_
          exact J128 _ (pk [105, 2, 5, 101] rfl)
         ·refine gF rfl rfl g125 (gF rfl rfl g125 (gF rfl rfl g125 (aF (withinB c.bound (0 : Int) (4 : Int)) rfl rfl g125 ?_)))
          exact J128 _ (pk [105, 2, 5, 101] rfl)
        refine mv rfl (jn 2 108 (.bool (((decide ((c.args.length : Int) = (1 : Int)) && allInB c.args (0 : Int) (5 : Int)) && (withinB c.bound (0 : Int) (4 : Int))) && decide ((c.rows.length : Int) = (0 : Int)))) (pk [2, 106] rfl) (fun J130 => ?_) ?_)
        ·rcases Bool.eq_false_or_eq_true ((decide ((c.args.length : Int) = (1 : Int)) && allInB c.args (0 : Int) (5 : Int)) && (withinB c.bound (0 : Int) (4 : Int))) with g129 | g129
         ·have g129p := g129
          try simp only [smpD] at g129p
          refine gT rfl rfl g129 (mv rfl (aT rfl rfl g129 ?_))
          exact J130 _ (pk [108, 2, 106] rfl)
         ·refine gF rfl rfl g129 (aF (decide ((c.rows.length : Int) = (0 : Int))) rfl rfl g129 ?_)
          exact J130 _ (pk [108, 2, 106] rfl)
        refine sg rfl (ln (qc (rt (kq_retP rfl rfl (congrArg Value.bool ?_)))))
        first | (exfalso; omega) | (simp [fitsB, rowsInB, *])
       ·refine cS (cr (eq9 rfl rfl ?_))
        refine sg rfl (ln (qc (ci9 rfl (fun c131 => ?_) (fun c131 => ?_))))
        ·refine cS (cr (mv rfl (mv rfl (kl_mul rfl rfl (by omega) ?_))))
         refine cP rfl rfl (fits1_ok ((2 : Int) * (c.vars.length : Int)) (0 : Int) (9 : Int) c ‹_› ‹_› ‹_› ‹_›) ?_
         refine mv rfl (jn 4 119 (.bool ((decide ((c.args.length : Int) = ((2 : Int) * (c.vars.length : Int))) && allInB c.args (0 : Int) (9 : Int)) && (withinB c.bound (0 : Int) (9 : Int)))) (pk [2, 5, 115] rfl) (fun J135 => ?_) ?_)
         ·rcases Bool.eq_false_or_eq_true (decide ((c.args.length : Int) = ((2 : Int) * (c.vars.length : Int))) && allInB c.args (0 : Int) (9 : Int)) with g132 | g132
          ·have g132p := g132
           try simp only [smpD] at g132p
           refine gT rfl rfl g132 (fd9 rfl ‹_› (fun p133 a134 => ?_))
           refine gT rfl rfl g132 (ld rfl ‹_› (gT rfl rfl g132 (cP rfl rfl (within_ok c.bound (0 : Int) (9 : Int)) ?_)))
           refine aT rfl rfl g132 ?_
           exact J135 _ (pk [119, 2, 5, 115] rfl)
          ·refine gF rfl rfl g132 (gF rfl rfl g132 (gF rfl rfl g132 (aF (withinB c.bound (0 : Int) (9 : Int)) rfl rfl g132 ?_)))
           exact J135 _ (pk [119, 2, 5, 115] rfl)
         refine mv rfl (jn 2 122 (.bool (((decide ((c.args.length : Int) = ((2 : Int) * (c.vars.length : Int))) && allInB c.args (0 : Int) (9 : Int)) && (withinB c.bound (0 : Int) (9 : Int))) && decide ((c.rows.length : Int) = (0 : Int)))) (pk [2, 120] rfl) (fun J137 => ?_) ?_)
         ·rcases Bool.eq_false_or_eq_true ((decide ((c.args.length : Int) = ((2 : Int) * (c.vars.length : Int))) && allInB c.args (0 : Int) (9 : Int)) && (withinB c.bound (0 : Int) (9 : Int))) with g136 | g136
          ·have g136p := g136
           try simp only [smpD] at g136p
           refine gT rfl rfl g136 (mv rfl (aT rfl rfl g136 ?_))
           exact J137 _ (pk [122, 2, 120] rfl)
          ·refine gF rfl rfl g136 (aF (decide ((c.rows.length : Int) = (0 : Int))) rfl rfl g136 ?_)
           exact J137 _ (pk [122, 2, 120] rfl)
         refine sg rfl (ln (qc (rt (kq_retP rfl rfl (congrArg Value.bool ?_)))))
         first | (exfalso; omega) | (simp [fitsB, rowsInB, *])
        ·refine cS (cr (eq9 rfl rfl ?_))
         refine sg rfl (ln (qc (ci9 rfl (fun c138 => ?_) (fun c138 => ?_))))
         ·refine cS (cr (fd9 rfl ‹_› (fun p139 a140 => ?_)))
          refine ld rfl ‹_› (le9 rfl ‹_› (fun l141 => ?_))
          refine sb9 rfl rfl (by omega) ?_
          refine sg rfl (ln (qc (cS (cr (fd9 rfl ‹_› (fun p142 a143 => ?_))))))
          refine ld rfl ‹_› (mv rfl (cP rfl rfl (rowsIn_ok c.rows (6 : Int) (-1 : Int) ((c.rows.length : Int) - (1 : Int)) ‹_›) ?_))
          refine mv rfl (jn 4 137 (.bool ((withinB c.rows.length 1 8 && c.rows.all fun r => decide ((r.length : Int) = (6 : Int)) && allInB r (-1 : Int) ((c.rows.length : Int) - (1 : Int))) && (distinctB c.args))) (pk [1, 2, 6, 7, 133] rfl) (fun J147 => ?_) ?_)
          ·rcases Bool.eq_false_or_eq_true (withinB c.rows.length 1 8 && c.rows.all fun r => decide ((r.length : Int) = (6 : Int)) && allInB r (-1 : Int) ((c.rows.length : Int) - (1 : Int))) with g144 | g144
           ·have g144p := g144
            try simp only [smpD] at g144p
            refine gT rfl rfl g144 (fd9 rfl ‹_› (fun p145 a146 => ?_))
            refine gT rfl rfl g144 (ld rfl ‹_› (gT rfl rfl g144 (cP rfl rfl (distinct_ok c.args ‹_›) ?_)))
            refine aT rfl rfl g144 ?_
            exact J147 _ (pk [137, 1, 2, 6, 7, 133] rfl)
           ·refine gF rfl rfl g144 (gF rfl rfl g144 (gF rfl rfl g144 (aF (distinctB c.args) rfl rfl g144 ?_)))
            exact J147 _ (pk [137, 1, 2, 6, 7, 133] rfl)
          refine mv rfl (jn 5 143 (.bool (((withinB c.rows.length 1 8 && c.rows.all fun r => decide ((r.length : Int) = (6 : Int)) && allInB r (-1 : Int) ((c.rows.length : Int) - (1 : Int))) && (distinctB c.args)) && (allInB c.args (0 : Int) ((c.rows.length : Int) - (1 : Int))))) (pk [2, 6, 138] rfl) (fun J151 => ?_) ?_)
          ·rcases Bool.eq_false_or_eq_true ((withinB c.rows.length 1 8 && c.rows.all fun r => decide ((r.length : Int) = (6 : Int)) && allInB r (-1 : Int) ((c.rows.length : Int) - (1 : Int))) && (distinctB c.args)) with g148 | g148
           ·have g148p := g148
            try simp only [smpD] at g148p
            refine gT rfl rfl g148 (fd9 rfl ‹_› (fun p149 a150 => ?_))
            refine gT rfl rfl g148 (ld rfl ‹_› (gT rfl rfl g148 (mv rfl (gT rfl rfl g148 (cP rfl rfl (allIn_ok c.args (0 : Int) ((c.rows.length : Int) - (1 : Int)) ‹_›) ?_)))))
            refine aT rfl rfl g148 ?_
            exact J151 _ (pk [143, 2, 6, 138] rfl)
           ·refine gF rfl rfl g148 (gF rfl rfl g148 (gF rfl rfl g148 (gF rfl rfl g148 (aF (allInB c.args (0 : Int) ((c.rows.length : Int) - (1 : Int))) rfl rfl g148 ?_))))
            exact J151 _ (pk [143, 2, 6, 138] rfl)
          refine mv rfl (jn 2 146 (.bool ((((withinB c.rows.length 1 8 && c.rows.all fun r => decide ((r.length : Int) = (6 : Int)) && allInB r (-1 : Int) ((c.rows.length : Int) - (1 : Int))) && (distinctB c.args)) && (allInB c.args (0 : Int) ((c.rows.length : Int) - (1 : Int)))) && decide (c.bound = (0 : Int)))) (pk [2, 144] rfl) (fun J153 => ?_) ?_)
          ·rcases Bool.eq_false_or_eq_true (((withinB c.rows.length 1 8 && c.rows.all fun r => decide ((r.length : Int) = (6 : Int)) && allInB r (-1 : Int) ((c.rows.length : Int) - (1 : Int))) && (distinctB c.args)) && (allInB c.args (0 : Int) ((c.rows.length : Int) - (1 : Int)))) with g152 | g152
           ·have g152p := g152
            try simp only [smpD] at g152p
            refine gT rfl rfl g152 (mv rfl (aT rfl rfl g152 ?_))
            exact J153 _ (pk [146, 2, 144] rfl)
           ·refine gF rfl rfl g152 (aF (decide (c.bound = (0 : Int))) rfl rfl g152 ?_)
            exact J153 _ (pk [146, 2, 144] rfl)
          refine sg rfl (ln (qc (rt (kq_retP rfl rfl (congrArg Value.bool ?_)))))
          first | (exfalso; omega) | (simp [fitsB, rowsInB, *])
         ·refine sk (qc (cS (cr (sg rfl (ln (qc (rt (kq_retP rfl rfl (congrArg Value.bool ?_)))))))))
          first | (exfalso; omega) | (simp [fitsB, rowsInB, *])
theorem validCon_ok {Hcv : Hp} {vcv : Value} {Hca : Hp} {vca : Value} {Hcr : Hp} {vcr : Value} (c : Con) (n : Int) (hn : -9223372036854775807 ≤ n ∧ n ≤ 9223372036854775807) (hcv : Ints Hcv vcv c.vars) (hca : Ints Hca vca c.args) (hcr : Rows Hcr vcr c.rows) : SpecP Tryz.prog 90 [.agg #[.int .i64 c.kind, vcv, vca, .int .i64 c.bound, vcr], .int .i64 n] [Hcv, Hca, Hcr] (.bool (validConB c n)) := by
 refine spec_of Tryz.func90 rfl rfl rfl (fun B => ?_)
 refine cS (cr (kl_box rfl rfl (fun p1 H2 f3 a4 => ?_)))
 refine sg rfl (ln (qc (cS (cr (mv rfl (cP rfl rfl (within_ok n (1 : Int) (4 : Int)) ?_))))))
 refine mv rfl (jn 6 13 (.bool ((withinB n (1 : Int) (4 : Int)) && (withinB (c.vars.length : Int) (1 : Int) n))) (pk [1, 2, 4, 7] rfl) (fun J9 => ?_) ?_)
 ·rcases Bool.eq_false_or_eq_true (withinB n (1 : Int) (4 : Int)) with g5 | g5
  ·have g5p := g5
   try simp only [smpD] at g5p
   refine gT rfl rfl g5 (fd9 rfl ‹_› (fun p6 a7 => ?_))
   refine gT rfl rfl g5 (ld rfl ‹_› (gT rfl rfl g5 (le9 rfl ‹_› (fun l8 => ?_))))
   refine gT rfl rfl g5 (mv rfl (gT rfl rfl g5 (cP rfl rfl (within_ok (c.vars.length : Int) (1 : Int) n) ?_)))
   refine aT rfl rfl g5 ?_
   exact J9 _ (pk [13, 1, 2, 4, 7] rfl)
  ·refine gF rfl rfl g5 (gF rfl rfl g5 (gF rfl rfl g5 (gF rfl rfl g5 (gF rfl rfl g5 (aF (withinB (c.vars.length : Int) (1 : Int) n) rfl rfl g5 ?_)))))
   exact J9 _ (pk [13, 1, 2, 4, 7] rfl)
 refine mv rfl (jn 6 20 (.bool (((withinB n (1 : Int) (4 : Int)) && (withinB (c.vars.length : Int) (1 : Int) n)) && (allInB c.vars (0 : Int) (n - (1 : Int))))) (pk [2, 4, 14] rfl) (fun J13 => ?_) ?_)
 ·rcases Bool.eq_false_or_eq_true ((withinB n (1 : Int) (4 : Int)) && (withinB (c.vars.length : Int) (1 : Int) n)) with g10 | g10
  ·have g10p := g10
   try simp only [smpD] at g10p
   refine gT rfl rfl g10 (fd9 rfl ‹_› (fun p11 a12 => ?_))
   refine gT rfl rfl g10 (ld rfl ‹_› (gT rfl rfl g10 (mv rfl (gT rfl rfl g10 (sb9 rfl rfl (by omega) ?_)))))
   refine gT rfl rfl g10 (cP rfl rfl (allIn_ok c.vars (0 : Int) (n - (1 : Int)) ‹_›) ?_)
   refine aT rfl rfl g10 ?_
   exact J13 _ (pk [20, 2, 4, 14] rfl)
  ·refine gF rfl rfl g10 (gF rfl rfl g10 (gF rfl rfl g10 (gF rfl rfl g10 (gF rfl rfl g10 (aF (allInB c.vars (0 : Int) (n - (1 : Int))) rfl rfl g10 ?_)))))
   exact J13 _ (pk [20, 2, 4, 14] rfl)
 refine mv rfl (jn 4 25 (.bool ((((withinB n (1 : Int) (4 : Int)) && (withinB (c.vars.length : Int) (1 : Int) n)) && (allInB c.vars (0 : Int) (n - (1 : Int)))) && (distinctB c.vars))) (pk [2, 4, 21] rfl) (fun J17 => ?_) ?_)
 ·rcases Bool.eq_false_or_eq_true (((withinB n (1 : Int) (4 : Int)) && (withinB (c.vars.length : Int) (1 : Int) n)) && (allInB c.vars (0 : Int) (n - (1 : Int)))) with g14 | g14
  ·have g14p := g14
   try simp only [smpD] at g14p
   refine gT rfl rfl g14 (fd9 rfl ‹_› (fun p15 a16 => ?_))
   refine gT rfl rfl g14 (ld rfl ‹_› (gT rfl rfl g14 (cP rfl rfl (distinct_ok c.vars ‹_›) ?_)))
   refine aT rfl rfl g14 ?_
   exact J17 _ (pk [25, 2, 4, 21] rfl)
  ·refine gF rfl rfl g14 (gF rfl rfl g14 (gF rfl rfl g14 (aF (distinctB c.vars) rfl rfl g14 ?_)))
   exact J17 _ (pk [25, 2, 4, 21] rfl)
 refine mv rfl (jn 3 29 (.bool (((((withinB n (1 : Int) (4 : Int)) && (withinB (c.vars.length : Int) (1 : Int) n)) && (allInB c.vars (0 : Int) (n - (1 : Int)))) && (distinctB c.vars)) && (fitsB c))) (pk [4, 26] rfl) (fun J19 => ?_) ?_)
 ·rcases Bool.eq_false_or_eq_true ((((withinB n (1 : Int) (4 : Int)) && (withinB (c.vars.length : Int) (1 : Int) n)) && (allInB c.vars (0 : Int) (n - (1 : Int)))) && (distinctB c.vars)) with g18 | g18
  ·have g18p := g18
   try simp only [smpD] at g18p
   refine gT rfl rfl g18 (kl_ldS rfl ‹_› rfl ?_)
   refine gT rfl rfl g18 (cP rfl rfl (fits_ok c ‹_› ‹_› ‹_›) ?_)
   refine aT rfl rfl g18 ?_
   exact J19 _ (pk [29, 4, 26] rfl)
  ·refine gF rfl rfl g18 (gF rfl rfl g18 (aF (fitsB c) rfl rfl g18 ?_))
   exact J19 _ (pk [29, 4, 26] rfl)
 refine sg rfl (ln (qc (rt (kq_retP rfl rfl (congrArg Value.bool ?_)))))
 rfl
theorem validMod1_ok {Hcv : Hp} {vcv : Value} {Hca : Hp} {vca : Value} {Hcr : Hp} {vcr : Value} {Hmd : Hp} {vmd : Value} {Hmc : Hp} {vmc : Value} {Hm : Hp} {ptrm : Value} (c : Con) (m : Mod) (hcv : Ints Hcv vcv c.vars) (hca : Ints Hca vca c.args) (hcr : Rows Hcr vcr c.rows) (hmd : Ints Hmd vmd m.doms) (hmc : Cons Hmc vmc m.cons) (am : At Hm ptrm [vmd, vmc]) : SpecP Tryz.prog 89 [.agg #[.int .i64 c.kind, vcv, vca, .int .i64 c.bound, vcr], ptrm] [Hcv, Hca, Hcr, Hmd, Hmc, Hm] (.bool (!validConB c m.doms.length)) := by
 refine spec_of Tryz.func89 rfl rfl rfl (fun B => ?_)
 refine cS (cr (kl_box rfl rfl (fun p1 H2 f3 a4 => ?_)))
 refine sg rfl (ln (qc (cS (cr (kl_ldS rfl ‹_› rfl ?_)))))
 refine fd9 rfl ‹_› (fun p5 a6 => ?_)
 refine ld rfl ‹_› (le9 rfl ‹_› (fun l7 => ?_))
 refine cP rfl rfl (validCon_ok c (m.doms.length : Int) (by first | assumption | omega) ‹_› ‹_› ‹_›) ?_
 refine nt9 rfl (sg rfl (ln (qc (rt (kq_retP rfl rfl (congrArg Value.bool ?_))))))
 rfl
theorem ixf_con_ok {Hxs : Hp} {vxs : Value} {gp : Nat} {capsp : Array Value} {imp : List Hp} [FnC Tryz.prog gp] (xs : List Con) (p : Con → Bool) (hxs : Cons Hxs vxs xs) (hp : ∀ (Ha Hb Hr : Hp) (a b r : Value) (c : Con), c ∈ xs → Ints Ha a c.vars → Ints Hb b c.args → Rows Hr r c.rows → SpecP Tryz.prog gp (.agg #[.int .i64 c.kind, a, b, .int .i64 c.bound, r] :: capsp.toList) (Ha :: Hb :: Hr :: imp) (.bool (p c))) : SpecP Tryz.prog 130 [vxs, .func (.func gp) #[] capsp] (Hxs :: imp) (.int .i64 (indexBy p xs)) := by
 refine spec_of Tryz.func130 rfl rfl rfl (fun B => ?_)
 refine cS (cr (sg rfl (ln (qc (cS (cS (cr (mv rfl (le9 rfl ‹_› (fun l1 => ?_))))))))))
 refine mv rfl (ln (qc (bl (kc_loop0 (A := Nat) (fun zz => (zz ≤ xs.length) ∧ ((xs.take zz).any p = false)) (fun zz => xs.length - zz) (fun zz => [(8, .int .i64 (zz : Int))]) (0) (pk [0, 1, 7] rfl) (pc 8 rfl pn) ⟨Nat.zero_le _, by simp⟩ ?_))))
 rintro k hJ4
 obtain ⟨hk2, hi3⟩ : (k ≤ xs.length) ∧ ((xs.take k).any p = false) := hJ4
 change KC _ _ (_) _ _ ([(8, .int .i64 (k : Int))] ++ _)
 refine cS (cr (ls9 rfl rfl ?_))
 refine ln (qc (cS (ci9 rfl (fun c5 => ?_) (fun c5 => ?_))))
 ·refine sk (qc (cS (bl (cS (cr (mv rfl (sg rfl (ln (qc (cS (cr (mv rfl ?_))))))))))))
  refine mv rfl (mv rfl (kl_inC rfl rfl ‹_› (by omega) (fun p6 u8 u9 u10 h11 h12 h13 a7 => ?_)))
  refine kl_ldS rfl ‹_› rfl ?_
  refine cP rfl rfl (hp _ _ _ _ _ _ (xs.getD k nilCon) (getD_mem (by omega)) ‹_› ‹_› ‹_›) ?_
  refine ln (qc (cd9 rfl (fun c14 => ?_) (fun c14 => ?_)))
  ·have c14r := c14
   try simp only [smpE] at c14
   refine cS (cr (mv rfl (sg rfl (ln (qc (rt (kq_retP rfl rfl (congrArg (Value.int .i64) ?_))))))))
   exact indexBy_hit (d := nilCon) (by omega) ‹_› ‹_›
  ·have c14r := c14
   try simp only [smpE] at c14
   refine sk (qc (cr (ic9 rfl rfl (by omega) ?_)))
   refine mv rfl (ln (kq_round0 ((k + 1)) (by omega) (⟨by omega, any_take_step (d := nilCon) (by omega) hi3 ‹_›⟩) (pc 8 rfl pn) (pk [0, 1, 7] rfl) slr9))
 ·refine ex9 (qc (cS (cr (sg rfl (ln (qc (rt (kq_retP rfl rfl (congrArg (Value.int .i64) ?_)))))))))
  exact indexBy_none (by omega) ‹_›
theorem cf_con_ok {Hxs : Hp} {vxs : Value} {gp : Nat} {capsp : Array Value} {imp : List Hp} [FnC Tryz.prog gp] (xs : List Con) (p : Con → Bool) (hxs : Cons Hxs vxs xs) (hp : ∀ (Ha Hb Hr : Hp) (a b r : Value) (c : Con), c ∈ xs → Ints Ha a c.vars → Ints Hb b c.args → Rows Hr r c.rows → SpecP Tryz.prog gp (.agg #[.int .i64 c.kind, a, b, .int .i64 c.bound, r] :: capsp.toList) (Ha :: Hb :: Hr :: imp) (.bool (p c))) : SpecP Tryz.prog 88 [vxs, .func (.func gp) #[] capsp] (Hxs :: imp) (.bool (xs.any p)) := by
 refine spec_of Tryz.func88 rfl rfl rfl (fun B => ?_)
 refine cS (cr (sg rfl (ln (qc (cS (cr (mv rfl (mv rfl (cP rfl rfl (ixf_con_ok xs p ‹_› hp) ?_)))))))))
 refine kl_geq rfl rfl ?_
 refine sg rfl (ln (qc (rt (kq_retP rfl rfl (congrArg Value.bool ?_)))))
 exact indexBy_any p xs
theorem validMod_ok {Hmd : Hp} {vmd : Value} {Hmc : Hp} {vmc : Value} (m : Mod) (hmd : Ints Hmd vmd m.doms) (hmc : Cons Hmc vmc m.cons) : SpecP Tryz.prog 51 [.agg #[vmd, vmc]] [Hmd, Hmc] (.bool (validModB m)) := by
 refine spec_of Tryz.func51 rfl rfl rfl (fun B => ?_)
 refine cS (cr (kl_box rfl rfl (fun p1 H2 f3 a4 => ?_)))
 refine sg rfl (ln (qc (cS (cr (fd9 rfl ‹_› (fun p5 a6 => ?_))))))
 refine ld rfl ‹_› (cP rfl rfl (domainsOk_ok m.doms ‹_›) ?_)
 refine mv rfl (jn 5 11 (.bool ((domainsOkB m.doms) && decide ((m.cons.length : Int) ≤ (6 : Int)))) (pk [1, 2, 6] rfl) (fun J11 => ?_) ?_)
 ·rcases Bool.eq_false_or_eq_true (domainsOkB m.doms) with g7 | g7
  ·have g7p := g7
   try simp only [smpD] at g7p
   refine gT rfl rfl g7 (fd9 rfl ‹_› (fun p8 a9 => ?_))
   refine gT rfl rfl g7 (ld rfl ‹_› (gT rfl rfl g7 (le9 rfl ‹_› (fun l10 => ?_))))
   refine gT rfl rfl g7 (kl_leq rfl rfl ?_)
   refine aT rfl rfl g7 ?_
   exact J11 _ (pk [11, 1, 2, 6] rfl)
  ·refine gF rfl rfl g7 (gF rfl rfl g7 (gF rfl rfl g7 (gF rfl rfl g7 (aF (decide ((m.cons.length : Int) ≤ (6 : Int))) rfl rfl g7 ?_))))
   exact J11 _ (pk [11, 1, 2, 6] rfl)
 refine mv rfl (jn 6 18 (.bool (((domainsOkB m.doms) && decide ((m.cons.length : Int) ≤ (6 : Int))) && !(m.cons.any (fun x14 => !validConB x14 m.doms.length)))) (pk [2, 12] rfl) (fun J16 => ?_) ?_)
 ·rcases Bool.eq_false_or_eq_true ((domainsOkB m.doms) && decide ((m.cons.length : Int) ≤ (6 : Int))) with g12 | g12
  ·have g12p := g12
   try simp only [smpD] at g12p
   refine gT rfl rfl g12 (fd9 rfl ‹_› (fun p13 a14 => ?_))
   refine gT rfl rfl g12 (ld rfl ‹_› (gT rfl rfl g12 (kl_mkf rfl ?_)))
   refine gT rfl rfl g12 (cP rfl rfl (cf_con_ok m.cons (fun x14 => !validConB x14 m.doms.length) ‹_› (fun _ _ _ ax14 bx14 rx14 x14 _ hax14 hbx14 hrx14 => validMod1_ok x14 m hax14 hbx14 hrx14 ‹_› ‹_› ‹_›)) ?_)
   refine gT rfl rfl g12 (nt9 rfl (aT rfl rfl g12 ?_))
   exact J16 _ (pk [18, 2, 12] rfl)
  ·refine gF rfl rfl g12 (gF rfl rfl g12 (gF rfl rfl g12 (gF rfl rfl g12 (gF rfl rfl g12 (aF (!(m.cons.any (fun x14 => !validConB x14 m.doms.length))) rfl rfl g12 ?_)))))
   exact J16 _ (pk [18, 2, 12] rfl)
 refine sg rfl (ln (qc (rt (kq_retP rfl rfl (congrArg Value.bool ?_)))))
 simp only [validModB, List.all_eq_not_any_not, Bool.and_assoc]; try rfl
end
section
theorem has_ok (m : Int) (i : Int) (h0 : 0 ≤ i) : SpecP Tryz.prog 137 [.int .i64 m, .int .i64 i] [] (.bool (hasB m i)) := by
 refine spec_of Tryz.func137 rfl rfl rfl (fun B => ?_)
 refine cS (cr (sg rfl (ln (qc (cS (cr (mv rfl (mv rfl (kl_shr rfl rfl (by omega) ?_)))))))))
 refine kl_and rfl rfl ?_
 refine eq9 rfl rfl ?_
 refine sg rfl (ln (qc (rt (kq_retP rfl rfl (congrArg Value.bool ?_)))))
 rfl
end
section
theorem clip_ok {Hxs : Hp} {vxs : Value} (xs : List Int) (hxs : Ints Hxs vxs xs) : Spec Tryz.prog 140 [vxs] [Hxs] (fun _ vq => Ints Hxs vq xs ∧ ClipV vxs vq xs.length) := by
 refine spec_of Tryz.func140 rfl rfl rfl (fun B => ?_)
 refine cS (cr (sg rfl (ln (qc (cS (cr (mv rfl (mv rfl (le9 rfl ‹_› (fun l1 => ?_))))))))))
 refine mv rfl (le9 rfl ‹_› (fun l2 => ?_))
 refine kl_clipV rfl rfl rfl ‹_› (by omega) (fun u3 h4 h4v => ?_)
 refine sg rfl (ln (qc (rt ?_)))
 exact kq_ret rfl rfl noHp (fr_no _) ⟨by assumption, by assumption⟩
end
section
theorem ones64_ok (x : Int) (hb : 0 ≤ x ∧ x ≤ 63) : SpecP Tryz.prog 179 [.int .u64 x] [] (.int .i64 (popI x)) := by
 refine spec_of Tryz.func179 rfl rfl rfl (fun B => ?_)
 refine cS (cr (sg rfl (ln (qc (cS (cr (mv rfl (kl_shrK rfl rfl (by omega) ?_))))))))
 refine kl_andK rfl rfl ?_
 refine mv rfl (kl_andK rfl rfl ?_)
 refine kl_addK rfl rfl ?_
 refine sg rfl (ln (qc (cS (cr (mv rfl (kl_shrK rfl rfl (by omega) ?_))))))
 refine kl_andK rfl rfl ?_
 refine mv rfl (kl_andK rfl rfl ?_)
 refine kl_addK rfl rfl ?_
 refine sg rfl (ln (qc (cS (cr (mv rfl (kl_shrK rfl rfl (by omega) ?_))))))
 refine mv rfl (kl_addK rfl rfl ?_)
 refine kl_andK rfl rfl ?_
 refine sg rfl (ln (qc (cS (cr (mv rfl (mv rfl (kl_shrK rfl rfl (by omega) ?_)))))))
 refine kl_addK rfl rfl ?_
 refine sg rfl (ln (qc (cS (cr (mv rfl (mv rfl (kl_shrK rfl rfl (by omega) ?_)))))))
 refine kl_addK rfl rfl ?_
 refine sg rfl (ln (qc (cS (cr (mv rfl (mv rfl (kl_shrK rfl rfl (by omega) ?_)))))))
 refine kl_addK rfl rfl ?_
 refine sg rfl (ln (qc (cS (cr (mv rfl (kl_cv rfl ?_))))))
 refine kl_and rfl rfl ?_
 refine sg rfl (ln (qc (rt (kq_retP rfl rfl (congrArg (Value.int .i64) ?_)))))
 (obtain ⟨n, rfl⟩ := Int.eq_ofNat_of_zero_le hb.1; have hn : n < 64 := (by omega); clear hb; revert n; decide +kernel)
theorem ones_ok (x : Int) (hb : 0 ≤ x ∧ x ≤ 63) : SpecP Tryz.prog 154 [.int .u64 x] [] (.int .i64 (popI x)) := by
 refine spec_of Tryz.func154 rfl rfl rfl (fun B => ?_)
 refine cS (cr (sg rfl (ln (qc (cS (kc_condF ?_))))))
 refine sk (qc (cS (cr (mv rfl (cP rfl rfl (ones64_ok x hb) ?_)))))
 refine sg rfl (ln (qc (rt (kq_retP rfl rfl (congrArg (Value.int .i64) ?_)))))
 rfl
theorem size_ok (d : Int) (hb : 0 ≤ d ∧ d ≤ 63) : SpecP Tryz.prog 153 [.int .i64 d] [] (.int .i64 (popI d)) := by
 refine spec_of Tryz.func153 rfl rfl rfl (fun B => ?_)
 refine cS (cr (sg rfl (ln (qc (cS (cr (mv rfl (kl_cvu rfl (by omega) ?_))))))))
 refine cP rfl rfl (ones_ok d hb) ?_
 refine sg rfl (ln (qc (rt (kq_retP rfl rfl (congrArg (Value.int .i64) ?_)))))
 rfl
theorem valuesOf_ok (d : Int) (hb : 0 ≤ d ∧ d ≤ 63) : Spec Tryz.prog 111 [.int .i64 d] [] (fun Hq vq => Ints Hq vq (valsI d)) := by
 have hp := popI_le d
 refine spec_of Tryz.func111 rfl rfl rfl (fun B => ?_)
 refine cS (cr (sg rfl (ln (qc (cS (cr (mv rfl (kl_cvu rfl (by omega) ?_))))))))
 refine cP rfl rfl (ones_ok d hb) ?_
 refine kl_mkL0 (R := IntV) rfl rfl (by omega) (by omega) (by decide) (fun v1 H2 f3 o4 => ?_)
 refine sg rfl (ln (qc (cS (cS (cr (mv rfl (ln (qc (bl (kc_loopL (A := Nat × List Int × Value × Hp) (fun zz => (zz.1 ≤ 6) ∧ (zz.2.1 = membersTo d zz.1) ∧ OwnL 3 1 zz.2.2.2 noHp IntV zz.2.2.1 zz.2.1 ∧ Fr B zz.2.2.2) (fun zz => 6 - zz.1) (fun zz => [zz.2.2.2]) (fun zz => [(9, .int .i64 (zz.1 : Int)), (3, zz.2.2.1)]) (0, ([]), v1, H2) (pk [0, 2] rfl) (pk [9, 3] rfl) rfl ⟨Nat.zero_le _, rfl, o4, f3⟩ ?_))))))))))
 rintro ⟨k, out, v10, H7⟩ hJ11
 obtain ⟨hk5, hi6, o8, f9⟩ : (k ≤ 6) ∧ (out = membersTo d k) ∧ OwnL 3 1 H7 noHp IntV v10 out ∧ Fr B H7 := hJ11
 change KC _ _ (_) [H7] _ ([(9, .int .i64 (k : Int)), (3, v10)] ++ _)
 refine cS (cr (ls9 rfl rfl ?_))
 refine ln (qc (cS (ci9 rfl (fun c12 => ?_) (fun c12 => ?_))))
 ·refine sk (qc (cS (bl (cS (cr (mv rfl (sg rfl (ln (qc (cS (cr (mv rfl ?_))))))))))))
  refine mv rfl (cP rfl rfl (has_ok d (k : Int) (by omega)) ?_)
  refine ln (qc (cd9 rfl (fun c13 => ?_) (fun c13 => ?_)))
  ·have c13r := c13
   try simp only [smpE] at c13
   refine cr (mv rfl (mv rfl (bs9 rfl rfl rfl (by decide) (ca rfl ca_nil) (fun v14 H15 f16 r17 s18 => ?_))))
   have h19 : Ints H15 v14 [(k : Int)] := litInts (xs := [(k : Int)]) (by simpa using s18)
   refine aL9 (k : Int) rfl rfl o8 ‹_› rfl (oc rfl oc_nil) (by have := members_len hi6; omega) (by decide) (fun v20 H21 o22 f23 => ?_)
   have f24 := f23 B f9 (Nat.le_refl _)
   refine sg rfl (ln (qc (cr (ic9 rfl rfl (by omega) ?_))))
   refine mv rfl (ln (rL ((k + 1), (out ++ [(k : Int)]), v20, H21) (by omega) (⟨by omega, (by first | exact members_stepT hi6 ‹_› | exact members_stepF hi6 ‹_›), o22, f24⟩) (pk [9, 3] rfl) (pk [0, 2] rfl) rfl slr9))
  ·have c13r := c13
   try simp only [smpE] at c13
   refine sk (qc (cr (ic9 rfl rfl (by omega) ?_)))
   refine mv rfl (ln (rL ((k + 1), out, v10, H7) (by omega) (⟨by omega, (by first | exact members_stepT hi6 ‹_› | exact members_stepF hi6 ‹_›), o8, f9⟩) (pk [9, 3] rfl) (pk [0, 2] rfl) rfl slr9))
 ·refine ex9 (qc (cS (cr (mv rfl (sg rfl (ln (qc (rt ?_))))))))
  have e9 : out = valsI d := by (have e : k = 6 := by omega); rw [hi6, e]; rfl
  exact kq_ret rfl rfl H7 f9 (e9 ▸ OwnL.ints o8)
theorem clone_ok {Hxs : Hp} {vxs : Value} (xs : List Int) (hb : xs.length ≤ 1048576) (hxs : Ints Hxs vxs xs) : Spec Tryz.prog 141 [vxs] [Hxs] (fun Hq vq => OwnL 3 1 Hq noHp IntV vq xs) := by
 refine spec_of Tryz.func141 rfl rfl rfl (fun B => ?_)
 refine cS (cr (sg rfl (ln (qc (cS (cS (cr (mv rfl (kl_eqlnil rfl rfl ‹_› (fun b1 h2 => ?_))))))))))
 refine ln (qc (cd9 rfl (fun c3 => ?_) (fun c3 => ?_)))
 ·have c3r := c3
  try simp only [smpE] at c3
  refine cS (cr (sg rfl (ln (qc (rt ?_)))))
  exact kq_ret rfl rfl noHp (fr_no _) (by rw [show xs = [] from (by simp_all)]; exact OwnL.nil)
 ·have c3r := c3
  try simp only [smpE] at c3
  refine sk (qc (cS (cr (kl_bsI [] rfl rfl rfl (by decide) (fun v4 H5 f6 o7 => ?_)))))
  refine mv rfl (kl_apS rfl rfl o7 ‹_› (fun _ _ h => h) (by first | omega | (simp; omega)) (by decide) (fun v8 H9 o10 f11 => ?_))
  have f12 := f11 B f6 (Nat.le_refl _)
  refine sg rfl (ln (qc (rt ?_)))
  have e9 : ([] ++ xs) = xs := by simp
  exact kq_ret rfl rfl H9 f12 (e9 ▸ o10)
theorem copied_ok {Hxs : Hp} {vxs : Value} (xs : List Int) (hb : xs.length ≤ 1048576) (hxs : Ints Hxs vxs xs) : Spec Tryz.prog 94 [vxs] [Hxs] (fun Hq vq => OwnL 3 1 Hq noHp IntV vq xs) := by
 refine spec_of Tryz.func94 rfl rfl rfl (fun B => ?_)
 refine cS (cr (sg rfl (ln (qc (cS (cr (mv rfl (kl_callL rfl rfl (clone_ok xs hb ‹_›) (fun v1 H2 f3 o4 => ?_)))))))))
 refine kl_call rfl rfl (clip_ok xs (OwnL.ints o4)) (fun v5 H6 f7 h8 => ?_)
 obtain ⟨h8, h9⟩ := h8
 refine sg rfl (ln (qc (rt ?_)))
 exact kq_ret rfl rfl H2 f3 ((OwnL.clip o4 h9))
theorem equal_ok {Ha : Hp} {va : Value} {Hb : Hp} {vb : Value} (a : List Int) (b : List Int) (ha : Ints Ha va a) (hb : Ints Hb vb b) : SpecP Tryz.prog 173 [va, vb] [Ha, Hb] (.bool (decide (a = b))) := by
 refine spec_of Tryz.func173 rfl rfl rfl (fun B => ?_)
 refine cS (cr (sg rfl (ln (qc (cS (cS (cr (mv rfl (le9 rfl ‹_› (fun l1 => ?_))))))))))
 refine mv rfl (le9 rfl ‹_› (fun l2 => ?_))
 refine kl_neq rfl rfl ?_
 refine ln (qc (ci9 rfl (fun c3 => ?_) (fun c3 => ?_)))
 ·refine cS (cr (sg rfl (ln (qc (rt (kq_retP rfl rfl (congrArg Value.bool ?_)))))))
  exact eq_len ‹_›
 ·refine sk (qc (cS (cS (cr (mv rfl (le9 rfl ‹_› (fun l4 => ?_)))))))
  refine mv rfl (ln (qc (bl (kc_loop0 (A := Nat) (fun zz => (zz ≤ a.length) ∧ (a.take zz = b.take zz)) (fun zz => a.length - zz) (fun zz => [(13, .int .i64 (zz : Int))]) (0) (pk [0, 1, 12] rfl) (pc 13 rfl pn) ⟨Nat.zero_le _, by simp⟩ ?_))))
  rintro k hJ7
  obtain ⟨hk5, hi6⟩ : (k ≤ a.length) ∧ (a.take k = b.take k) := hJ7
  change KC _ _ (_) _ _ ([(13, .int .i64 (k : Int))] ++ _)
  refine cS (cr (ls9 rfl rfl ?_))
  refine ln (qc (cS (ci9 rfl (fun c8 => ?_) (fun c8 => ?_))))
  ·refine sk (qc (cS (bl (cS (cr (mv rfl (sg rfl (ln (qc (cS ?_))))))))))
   refine kc_draw 9 [true, true, true, true, true, true, true, true, true] (by kernel_rfl) (by kernel_rfl) ?_
   refine mv rfl (mv rfl (kl_inI rfl rfl ‹_› (by omega) (fun p9 a10 => ?_)))
   refine ld rfl ‹_› (mv rfl (mv rfl (kl_inI rfl rfl ‹_› (by omega) (fun p11 a12 => ?_))))
   refine ld rfl ‹_› (kl_neq rfl rfl ?_)
   refine ln (qc (ci9 rfl (fun c13 => ?_) (fun c13 => ?_)))
   ·refine cS (cr (sg rfl (ln (qc (rt (kq_retP rfl rfl (congrArg Value.bool ?_)))))))
    exact eq_at (k := k) 0 (by simpa using by assumption)
   ·refine sk (qc (cr (ic9 rfl rfl (by omega) ?_)))
    refine mv rfl (ln (kq_round0 ((k + 1)) (by omega) (⟨by omega, eq_step 0 (by omega) (by omega) hi6 (by first | exact Decidable.not_not.1 ‹_› | (simpa using by assumption))⟩) (pc 13 rfl pn) (pk [0, 1, 12] rfl) slr9))
  ·refine ex9 (qc (cS (cr (sg rfl (ln (qc (rt (kq_retP rfl rfl (congrArg Value.bool ?_)))))))))
   exact eq_end (k := k) (by omega) (by omega) ‹_›
theorem word_ok {Hcv : Hp} {vcv : Value} {Hca : Hp} {vca : Value} {Hcr : Hp} {vcr : Value} {Hx : Hp} {vx : Value} (c : Con) (x : List Int) (hv : ∀ v ∈ c.vars, (0 : Int) ≤ v ∧ v < x.length) (hb : c.vars.length ≤ 1048576) (hcv : Ints Hcv vcv c.vars) (hca : Ints Hca vca c.args) (hcr : Rows Hcr vcr c.rows) (hx : Ints Hx vx x) : Spec Tryz.prog 176 [.agg #[.int .i64 c.kind, vcv, vca, .int .i64 c.bound, vcr], vx] [Hcv, Hca, Hcr, Hx] (fun Hq vq => Ints Hq vq (wordL c.vars x)) := by
 refine spec_of Tryz.func176 rfl rfl rfl (fun B => ?_)
 refine cS (cr (kl_box rfl rfl (fun p1 H2 f3 a4 => ?_)))
 refine sg rfl (ln (qc (cS (cr (fd9 rfl ‹_› (fun p5 a6 => ?_))))))
 refine ld rfl ‹_› (le9 rfl ‹_› (fun l7 => ?_))
 refine kl_mkL0 (R := IntV) rfl rfl (by omega) (by omega) (by decide) (fun v8 H9 f10 o11 => ?_)
 refine sg rfl (ln (qc (cS (cS (cr (fd9 rfl ‹_› (fun p12 a13 => ?_)))))))
 refine ld rfl ‹_› (le9 rfl ‹_› (fun l14 => ?_))
 refine mv rfl (ln (qc (bl (kc_loopL (A := Nat × List Int × Value × Hp) (fun zz => (zz.1 ≤ c.vars.length) ∧ (zz.2.1 = wordTo c.vars x zz.1) ∧ OwnL 3 1 zz.2.2.2 noHp IntV zz.2.2.1 zz.2.1 ∧ Fr B zz.2.2.2) (fun zz => c.vars.length - zz.1) (fun zz => [zz.2.2.2]) (fun zz => [(15, .int .i64 (zz.1 : Int)), (5, zz.2.2.1)]) (0, ([]), v8, H9) (pk [1, 4, 13, 14] rfl) (pk [15, 5] rfl) rfl ⟨Nat.zero_le _, rfl, o11, f10⟩ ?_))))
 rintro ⟨k, out, v20, H17⟩ hJ21
 obtain ⟨hk15, hi16, o18, f19⟩ : (k ≤ c.vars.length) ∧ (out = wordTo c.vars x k) ∧ OwnL 3 1 H17 noHp IntV v20 out ∧ Fr B H17 := hJ21
 change KC _ _ (_) [H17] _ ([(15, .int .i64 (k : Int)), (5, v20)] ++ _)
 refine cS (cr (ls9 rfl rfl ?_))
 refine ln (qc (cS (ci9 rfl (fun c22 => ?_) (fun c22 => ?_))))
 ·have hv1 := hv _ (getD_mem (d := (0 : Int)) (by omega : k < c.vars.length))
  refine sk (qc (cS (bl (cS (cr (kl_inI rfl rfl ‹_› (by omega) (fun p23 a24 => ?_)))))))
  refine ld rfl ‹_› (sg rfl (ln (qc (cr (mv rfl (mv rfl (mv rfl (kl_ixI rfl rfl ‹_› (by omega) (by omega) (fun p25 a26 => ?_)))))))))
  refine ld rfl ‹_› (bs9 rfl rfl rfl (by decide) (ca rfl ca_nil) (fun v27 H28 f29 r30 s31 => ?_))
  have h32 : Ints H28 v27 [(x.getD (c.vars.getD k 0).toNat 0)] := litInts (xs := [(x.getD (c.vars.getD k 0).toNat 0)]) (by simpa using s31)
  refine aL9 (x.getD (c.vars.getD k 0).toNat 0) rfl rfl o18 ‹_› rfl (oc rfl oc_nil) (by have := word_len hi16; omega) (by decide) (fun v33 H34 o35 f36 => ?_)
  have f37 := f36 B f19 (Nat.le_refl _)
  refine sg rfl (ln (qc (cr (ic9 rfl rfl (by omega) ?_))))
  refine mv rfl (ln (rL ((k + 1), (out ++ [(x.getD (c.vars.getD k 0).toNat 0)]), v33, H34) (by omega) (⟨by omega, word_step hi16 (by omega), o35, f37⟩) (pk [15, 5] rfl) (pk [1, 4, 13, 14] rfl) rfl slr9))
 ·refine ex9 (qc (cS (cr (mv rfl (sg rfl (ln (qc (rt ?_))))))))
  have e9 : out = wordL c.vars x := by exact word_end hi16 (by omega)
  exact kq_ret rfl rfl H17 f19 (e9 ▸ OwnL.ints o18)
theorem weighted_ok {Ha : Hp} {va : Value} {Hx : Hp} {vx : Value} (a : List Int) (x : List Int) (hA : Coef a) (hX : Vals x) (hl : a.length = x.length) (h4 : x.length ≤ 4) (ha : Ints Ha va a) (hx : Ints Hx vx x) : SpecP Tryz.prog 47 [va, vx] [Ha, Hx] (.int .i64 (dotTo a x x.length)) := by
 refine spec_of Tryz.func47 rfl rfl rfl (fun B => ?_)
 refine cS (cr (sg rfl (ln (qc (cS (cr (sg rfl (ln (qc (cS (cS (cr (mv rfl (le9 rfl ‹_› (fun l1 => ?_)))))))))))))))
 refine mv rfl (ln (qc (bl (kc_loop0 (A := Nat × Int) (fun zz => (zz.1 ≤ a.length) ∧ (zz.2 = dotTo a x zz.1)) (fun zz => a.length - zz.1) (fun zz => [(10, .int .i64 (zz.1 : Int)), (5, .int .i64 zz.2)]) (0, (0 : Int)) (pk [1, 4, 8, 9] rfl) (pk [10, 5] rfl) ⟨Nat.zero_le _, rfl⟩ ?_))))
 rintro ⟨k, s⟩ hJ4
 obtain ⟨hk2, hi3⟩ : (k ≤ a.length) ∧ (s = dotTo a x k) := hJ4
 change KC _ _ (_) _ _ ([(10, .int .i64 (k : Int)), (5, .int .i64 s)] ++ _)
 refine cS (cr (ls9 rfl rfl ?_))
 refine ln (qc (cS (ci9 rfl (fun c5 => ?_) (fun c5 => ?_))))
 ·have h1 := hA.at (k := k) (by omega)
  have h2 := hX.at (k := k) (by omega)
  have h3 := prod_le h1 h2
  have h5 := dot_le hA hX k (by omega) (by omega)
  refine sk (qc (cS (bl (cS (cr (mv rfl (kl_inI rfl rfl ‹_› (by omega) (fun p6 a7 => ?_))))))))
  refine ld rfl ‹_› (sg rfl (sg rfl (ln (qc (cr (mv rfl (mv rfl (mv rfl (mv rfl ?_)))))))))
  refine kl_inI rfl rfl ‹_› (by omega) (fun p8 a9 => ?_)
  refine ld rfl ‹_› (kl_mul rfl rfl (by omega) ?_)
  refine ad9 rfl rfl (by omega) ?_
  refine sg rfl (ln (qc (cr (ic9 rfl rfl (by omega) ?_))))
  refine mv rfl (ln (kq_round0 ((k + 1), (s + ((a.getD k 0) * (x.getD k 0)))) (by omega) (⟨by omega, (by rw [dot_succ, ← hi3])⟩) (pk [10, 5] rfl) (pk [1, 4, 8, 9] rfl) slr9))
 ·refine ex9 (qc (cS (cr (mv rfl (sg rfl (ln (qc (rt (kq_retP rfl rfl (congrArg (Value.int .i64) ?_))))))))))
  rw [show x.length = k from by omega]; exact hi3
theorem roomy_ok {Hcv : Hp} {vcv : Value} {Hca : Hp} {vca : Value} {Hcr : Hp} {vcr : Value} {Hx : Hp} {vx : Value} (c : Con) (x : List Int) (hs : SatOk c x) (hk : c.kind = 7) (hcv : Ints Hcv vcv c.vars) (hca : Ints Hca vca c.args) (hcr : Rows Hcr vcr c.rows) (hx : Ints Hx vx x) : SpecP Tryz.prog 190 [.agg #[.int .i64 c.kind, vcv, vca, .int .i64 c.bound, vcr], vx] [Hcv, Hca, Hcr, Hx] (.bool (roomB c x)) := by
 have h7 := hs.k7 hk
 have h4 := hs.four
 refine spec_of Tryz.func190 rfl rfl rfl (fun B => ?_)
 refine cS (cr (kl_box rfl rfl (fun p1 H2 f3 a4 => ?_)))
 refine sg rfl (ln (qc (cS (cr (mv rfl (le9 rfl ‹_› (fun l5 => ?_)))))))
 refine sg rfl (ln (qc (cS (cS (cr (mv rfl (ln (qc (bl (kc_loop0 (A := Nat) (fun zz => (zz ≤ 15) ∧ (roomTo c x zz = true)) (fun zz => 15 - zz) (fun zz => [(12, .int .i64 (zz : Int))]) (0) (pk [1, 2, 5] rfl) (pc 12 rfl pn) ⟨Nat.zero_le _, rfl⟩ ?_))))))))))
 rintro k hJ8
 obtain ⟨hk6, hi7⟩ : (k ≤ 15) ∧ (roomTo c x k = true) := hJ8
 change KC _ _ (_) _ _ ([(12, .int .i64 (k : Int))] ++ _)
 refine cS (cr (ls9 rfl rfl ?_))
 refine ln (qc (cS (ci9 rfl (fun c9 => ?_) (fun c9 => ?_))))
 ·refine sk (qc (cS (bl (cS (cr (mv rfl (sg rfl (ln (qc (cS (cr (sg rfl ?_))))))))))))
  refine ln (qc (cS (cS (cr (mv rfl (le9 rfl ‹_› (fun l10 => ?_)))))))
  refine mv rfl (ln (qc (bl (kc_loop0 (A := Nat × Int) (fun zz => (zz.1 ≤ x.length) ∧ (zz.2 = loadTo c.args x k zz.1)) (fun zz => x.length - zz.1) (fun zz => [(17, .int .i64 (zz.1 : Int)), (7, .int .i64 zz.2)]) (0, (0 : Int)) (pk [1, 2, 5, 6, 12, 13, 14, 15, 16] rfl) (pk [17, 7] rfl) ⟨Nat.zero_le _, rfl⟩ ?_))))
  rintro ⟨i, s⟩ hJ13
  obtain ⟨hk11, hi12⟩ : (i ≤ x.length) ∧ (s = loadTo c.args x k i) := hJ13
  change KC _ _ (_) _ _ ([(17, .int .i64 (i : Int)), (7, .int .i64 s)] ++ _)
  refine cS (cr (ls9 rfl rfl ?_))
  refine ln (qc (cS (ci9 rfl (fun c14 => ?_) (fun c14 => ?_))))
  ·have hl := load_le (x := x) h7.2 (by omega) k i (by omega)
   have hx1 := hs.val.at (k := i) (by omega)
   have ha1 := h7.2 _ (getD_mem (d := (0 : Int)) (by omega : i < c.args.length))
   refine sk (qc (cS (bl (cS (cr (mv rfl (kl_inI rfl rfl ‹_› (by omega) (fun p15 a16 => ?_))))))))
   refine ld rfl ‹_› (sg rfl (sg rfl (ln (qc (cS (cr (mv rfl (mv rfl (kl_leq rfl rfl ?_)))))))))
   refine mv rfl (jn 10 35 (.bool (decide ((x.getD i 0) ≤ (k : Int)) && decide ((k : Int) < ((x.getD i 0) + (c.args.getD i 0))))) (pk [1, 2, 5, 6, 7, 8, 9, 12, 13, 14, 15, 16, 17, 18, 19, 20, 21, 22, 23, 24, 25] rfl) (fun J22 => ?_) ?_)
   ·rcases Bool.eq_false_or_eq_true (decide ((x.getD i 0) ≤ (k : Int))) with g17 | g17
    ·have g17p := of_decide_eq_true g17
     refine gT rfl rfl g17 (mv rfl (gT rfl rfl g17 (mv rfl (gT rfl rfl g17 (fd9 rfl ‹_› (fun p18 a19 => ?_))))))
     refine gT rfl rfl g17 (ld rfl ‹_› (gT rfl rfl g17 (mv rfl (gT rfl rfl g17 (kl_inI rfl rfl ‹_› (by omega) (fun p20 a21 => ?_))))))
     refine gT rfl rfl g17 (ld rfl ‹_› (gT rfl rfl g17 (ad9 rfl rfl (by omega) ?_)))
     refine gT rfl rfl g17 (ls9 rfl rfl ?_)
     refine aT rfl rfl g17 ?_
     exact J22 _ (pk [35, 1, 2, 5, 6, 7, 8, 9, 12, 13, 14, 15, 16, 17, 18, 19, 20, 21, 22, 23, 24, 25] rfl)
    ·refine gF rfl rfl g17 (gF rfl rfl g17 (gF rfl rfl g17 (gF rfl rfl g17 (gF rfl rfl g17 (gF rfl rfl g17 (gF rfl rfl g17 (gF rfl rfl g17 (gF rfl rfl g17 ?_))))))))
     refine aF (decide ((k : Int) < ((x.getD i 0) + (c.args.getD i 0)))) rfl rfl g17 ?_
     exact J22 _ (pk [35, 1, 2, 5, 6, 7, 8, 9, 12, 13, 14, 15, 16, 17, 18, 19, 20, 21, 22, 23, 24, 25] rfl)
   refine ln (qc (cd9 rfl (fun c23 => ?_) (fun c23 => ?_)))
   ·have c23r := c23
    try simp only [smpE] at c23
    have ha2 := h7.2 _ (getD_mem (d := (0 : Int)) (by omega : x.length + i < c.args.length))
    refine cr (mv rfl (fd9 rfl ‹_› (fun p24 a25 => ?_)))
    refine ld rfl ‹_› (mv rfl (mv rfl (kl_addN rfl rfl (by omega) ?_)))
    refine kl_inI rfl rfl ‹_› (by omega) (fun p26 a27 => ?_)
    refine ld rfl ‹_› (ad9 rfl rfl (by omega) ?_)
    refine sg rfl (ln (qc (cr (ic9 rfl rfl (by omega) ?_))))
    refine mv rfl (ln (kq_round0 ((i + 1), (s + (c.args.getD (x.length + i) 0))) (by omega) (⟨by omega, (by first | exact load_stepT hi12 ‹_› | exact load_stepF hi12 ‹_›)⟩) (pk [17, 7] rfl) (pk [1, 2, 5, 6, 12, 13, 14, 15, 16] rfl) slr9))
   ·have c23r := c23
    try simp only [smpE] at c23
    refine sk (qc (cr (ic9 rfl rfl (by omega) ?_)))
    refine mv rfl (ln (kq_round0 ((i + 1), s) (by omega) (⟨by omega, (by first | exact load_stepT hi12 ‹_› | exact load_stepF hi12 ‹_›)⟩) (pk [17, 7] rfl) (pk [1, 2, 5, 6, 12, 13, 14, 15, 16] rfl) slr9))
  ·refine ex9 (qc (cS (cr (mv rfl (fd9 rfl ‹_› (fun p28 a29 => ?_))))))
   refine ld rfl ‹_› (kl_gtr rfl rfl ?_)
   refine ln (qc (ci9 rfl (fun c30 => ?_) (fun c30 => ?_)))
   ·refine cS (cr (sg rfl (ln (qc (rt (kq_retP rfl rfl (congrArg Value.bool ?_)))))))
    exact room_no' (k := k) (by omega) hi12 (by omega) ‹_›
   ·refine sk (qc (cr (ic9 rfl rfl (by omega) ?_)))
    refine mv rfl (ln (kq_round0 ((k + 1)) (by omega) (⟨by omega, room_step hi7 hi12 (by omega) ‹_›⟩) (pc 12 rfl pn) (pk [1, 2, 5] rfl) slr9))
 ·refine ex9 (qc (cS (cr (sg rfl (ln (qc (rt (kq_retP rfl rfl (congrArg Value.bool ?_)))))))))
  exact room_yes hi7 (by omega)
theorem accepts_ok {Hcv : Hp} {vcv : Value} {Hca : Hp} {vca : Value} {Hcr : Hp} {vcr : Value} {Hx : Hp} {vx : Value} (c : Con) (x : List Int) (hs : SatOk c x) (hk : c.kind = 8) (hcv : Ints Hcv vcv c.vars) (hca : Ints Hca vca c.args) (hcr : Rows Hcr vcr c.rows) (hx : Ints Hx vx x) : SpecP Tryz.prog 191 [.agg #[.int .i64 c.kind, vcv, vca, .int .i64 c.bound, vcr], vx] [Hcv, Hca, Hcr, Hx] (.bool (accB c x)) := by
 have h8 := hs.k8 hk
 have h8r := hs.k8r hk
 refine spec_of Tryz.func191 rfl rfl rfl (fun B => ?_)
 refine cS (cr (kl_box rfl rfl (fun p1 H2 f3 a4 => ?_)))
 refine sg rfl (ln (qc (cS (cr (sg rfl (ln (qc (cS (cS (cr (mv rfl (le9 rfl ‹_› (fun l5 => ?_)))))))))))))
 refine mv rfl (ln (qc (bl (kc_loop0 (A := Nat × Int) (fun zz => (zz.1 ≤ x.length) ∧ (0 ≤ zz.2 ∧ zz.2 < c.rows.length ∧ accGo c.rows zz.2 (x.drop zz.1) = accGo c.rows 0 x)) (fun zz => x.length - zz.1) (fun zz => [(10, .int .i64 (zz.1 : Int)), (5, .int .i64 zz.2)]) (0, (0 : Int)) (pk [2, 8, 9] rfl) (pk [10, 5] rfl) ⟨Nat.zero_le _, ⟨by dsimp only; omega, by dsimp only; omega, by simp⟩⟩ ?_))))
 rintro ⟨k, s⟩ hJ8
 obtain ⟨hk6, hi7⟩ : (k ≤ x.length) ∧ (0 ≤ s ∧ s < c.rows.length ∧ accGo c.rows s (x.drop k) = accGo c.rows 0 x) := hJ8
 change KC _ _ (_) _ _ ([(10, .int .i64 (k : Int)), (5, .int .i64 s)] ++ _)
 refine cS (cr (ls9 rfl rfl ?_))
 refine ln (qc (cS (ci9 rfl (fun c9 => ?_) (fun c9 => ?_))))
 ·have hr := h8.2 _ (getD_mem (d := ([] : List Int)) (by omega : s.toNat < c.rows.length))
  have hx1 := hs.val.at (k := k) (by omega)
  refine sk (qc (cS (bl (cS (cr (kl_inI rfl rfl ‹_› (by omega) (fun p10 a11 => ?_)))))))
  refine ld rfl ‹_› (sg rfl (ln (qc (cS (cr (fd9 rfl ‹_› (fun p12 a13 => ?_)))))))
  refine ld rfl ‹_› (mv rfl (kl_ixS rfl rfl ‹_› (by omega) (by omega) (fun p14 u16 h17 a15 => ?_)))
  refine ld rfl ‹_› (mv rfl (kl_ixI rfl rfl ‹_› (by omega) (by omega) (fun p18 a19 => ?_)))
  refine ld rfl ‹_› (sg rfl (ln (qc (cS (cr (mv rfl (ls9 rfl rfl ?_)))))))
  refine ln (qc (ci9 rfl (fun c20 => ?_) (fun c20 => ?_)))
  ·refine cS (cr (sg rfl (ln (qc (rt (kq_retP rfl rfl (congrArg Value.bool ?_)))))))
   exact acc_no (k := k) (by omega) hi7.2.2 ‹_›
  ·refine sk (qc (cr (ic9 rfl rfl (by omega) ?_)))
   refine mv rfl (ln (kq_round0 ((k + 1), ((c.rows.getD s.toNat []).getD (x.getD k 0).toNat 0)) (by omega) (⟨by omega, acc_step h8r (by omega) ⟨hi7.1, hi7.2.1⟩ hx1 hi7.2.2 ‹_›⟩) (pk [10, 5] rfl) (pk [2, 8, 9] rfl) slr9))
 ·refine ex9 (qc (cS (cr (fd9 rfl ‹_› (fun p21 a22 => ?_)))))
  refine ld rfl ‹_› (mv rfl (cP rfl rfl (containsInts_ok c.args s ‹_›) ?_))
  refine sg rfl (ln (qc (rt (kq_retP rfl rfl (congrArg Value.bool ?_)))))
  exact acc_yes (k := k) (by omega) hi7.1 hi7.2.2
theorem cycle1_ok {Hx : Hp} {vx : Value} {Hpx : Hp} {ptrpx : Value} (v : Int) (x : List Int) (hx : Ints Hx vx x) (apx : At Hpx ptrpx [vx]) : SpecP Tryz.prog 198 [.int .i64 v, ptrpx] [Hx, Hpx] (.bool (decide ((x.length : Int) ≤ v))) := by
 refine spec_of Tryz.func198 rfl rfl rfl (fun B => ?_)
 refine cS (cr (sg rfl (ln (qc (cS (cr (mv rfl (ld rfl ‹_› (le9 rfl ‹_› (fun l1 => ?_))))))))))
 refine kl_geq rfl rfl ?_
 refine sg rfl (ln (qc (rt (kq_retP rfl rfl (congrArg Value.bool ?_)))))
 rfl
theorem cycle_ok {Hx : Hp} {vx : Value} (x : List Int) (h1 : 1 ≤ x.length) (h4 : x.length ≤ 4) (hv : Vals x) (hx : Ints Hx vx x) : SpecP Tryz.prog 192 [vx] [Hx] (.bool (cycI x)) := by
 refine spec_of Tryz.func192 rfl rfl rfl (fun B => ?_)
 refine cS (cr (kl_box rfl (Sl.cells ‹_›) (fun p1 H2 f3 a4 => ?_)))
 refine sg rfl (ln (qc (cS (cS (cr (ld rfl ‹_› (kl_mkf rfl ?_)))))))
 refine cP rfl rfl (cf_int_ok x (fun x4 => decide ((x.length : Int) ≤ x4)) ‹_› (fun x4 _ => cycle1_ok x4 x ‹_› ‹_›)) ?_
 refine ln (qc (cd9 rfl (fun c6 => ?_) (fun c6 => ?_)))
 ·have c6r := c6
  try simp only [smpE] at c6
  refine cS (cr (sg rfl (ln (qc (rt (kq_retP rfl rfl (congrArg Value.bool ?_)))))))
  exact cyc_bad ‹_›
 ·have c6r := c6
  try simp only [smpE] at c6
  have hin := cyc_in c6r
  refine sk (qc (cS (cr (ld rfl ‹_› (kl_inI (i := 0) rfl rfl ‹_› (by omega) (fun p7 a8 => ?_))))))
  refine ld rfl ‹_› (sg rfl (sg rfl (ln (qc (cS (bl (kc_loop0 (A := Nat × Int × Int) (fun zz => (cycIGo x zz.1 zz.2.1 zz.2.2 = cycIGo x x.length (x.getD 0 0) 1 ∧ 0 ≤ zz.2.1 ∧ zz.2.1 < x.length ∧ zz.2.2 + (zz.1 : Int) = x.length + 1 ∧ 1 ≤ zz.2.2)) (fun zz => zz.1) (fun zz => [(3, .int .i64 zz.2.1), (4, .int .i64 zz.2.2)]) (x.length, (x.getD 0 0), (1 : Int)) (pk [1, 2] rfl) (pk [3, 4] rfl) (⟨rfl, (hv.at (k := 0) (by omega)).1, hin _ (getD_mem (by omega)), by dsimp only; omega, by dsimp only; omega⟩) ?_)))))))
  rintro ⟨f, a, s⟩ hJ11
  have hi10 : (cycIGo x f a s = cycIGo x x.length (x.getD 0 0) 1 ∧ 0 ≤ a ∧ a < x.length ∧ s + (f : Int) = x.length + 1 ∧ 1 ≤ s) := hJ11
  change KC _ _ (_) _ _ ([(3, .int .i64 a), (4, .int .i64 s)] ++ _)
  refine cS (cS (cr (mv rfl (kl_neq rfl rfl ?_))))
  refine mv rfl (jn 5 18 (.bool (decide (a ≠ (0 : Int)) && decide (s ≤ (x.length : Int)))) (pk [1, 2, 3, 4, 11, 12, 13] rfl) (fun J14 => ?_) ?_)
  ·rcases Bool.eq_false_or_eq_true (decide (a ≠ (0 : Int))) with g12 | g12
   ·have g12p := of_decide_eq_true g12
    refine gT rfl rfl g12 (mv rfl (gT rfl rfl g12 (ld rfl ‹_› (gT rfl rfl g12 (le9 rfl ‹_› (fun l13 => ?_))))))
    refine gT rfl rfl g12 (kl_leq rfl rfl ?_)
    refine aT rfl rfl g12 ?_
    exact J14 _ (pk [18, 1, 2, 3, 4, 11, 12, 13] rfl)
   ·refine gF rfl rfl g12 (gF rfl rfl g12 (gF rfl rfl g12 (gF rfl rfl g12 (aF (decide (s ≤ (x.length : Int))) rfl rfl g12 ?_))))
    exact J14 _ (pk [18, 1, 2, 3, 4, 11, 12, 13] rfl)
  refine ln (qc (cd9 rfl (fun c15 => ?_) (fun c15 => ?_)))
  ·have c15r := c15
   try simp only [smpE] at c15
   refine sk (qc (bl (cS (cr (ld rfl ‹_› (mv rfl (kl_ixI rfl rfl ‹_› (by omega) (by omega) (fun p16 a17 => ?_))))))))
   refine ld rfl ‹_› (sg rfl (ln (qc (cr (mv rfl (ad9 rfl rfl (by omega) ?_))))))
   refine sg rfl (ln (kq_round0 ((f - 1), (x.getD a.toNat 0), (s + (1 : Int))) (by dsimp only; omega) (⟨cyc_step hi10.1 (by omega) ‹_›, (hv _ (getD_mem (by omega))).1, hin _ (getD_mem (by omega)), by dsimp only; omega, by dsimp only; omega⟩) (pk [3, 4] rfl) (pk [1, 2] rfl) slr9))
  ·have c15r := c15
   try simp only [smpE] at c15
   refine ex9 (qc (cS (cr (mv rfl (eq9 rfl rfl ?_)))))
   refine mv rfl (jn 5 32 (.bool (decide (a = (0 : Int)) && decide (s = (x.length : Int)))) (pk [2, 27] rfl) (fun J20 => ?_) ?_)
   ·rcases Bool.eq_false_or_eq_true (decide (a = (0 : Int))) with g18 | g18
    ·have g18p := of_decide_eq_true g18
     refine gT rfl rfl g18 (mv rfl (gT rfl rfl g18 (ld rfl ‹_› (gT rfl rfl g18 (le9 rfl ‹_› (fun l19 => ?_))))))
     refine gT rfl rfl g18 (eq9 rfl rfl ?_)
     refine aT rfl rfl g18 ?_
     exact J20 _ (pk [32, 2, 27] rfl)
    ·refine gF rfl rfl g18 (gF rfl rfl g18 (gF rfl rfl g18 (gF rfl rfl g18 (aF (decide (s = (x.length : Int))) rfl rfl g18 ?_))))
     exact J20 _ (pk [32, 2, 27] rfl)
   refine sg rfl (ln (qc (rt (kq_retP rfl rfl (congrArg Value.bool ?_)))))
   exact cyc_end ‹_› hi10.1 ‹_›
theorem satisfied1_ok {Hrow : Hp} {vrow : Value} {Hx : Hp} {vx : Value} {Hpx : Hp} {ptrpx : Value} (row : List Int) (x : List Int) (hrow : Ints Hrow vrow row) (hx : Ints Hx vx x) (apx : At Hpx ptrpx [vx]) : SpecP Tryz.prog 189 [vrow, ptrpx] [Hrow, Hx, Hpx] (.bool (decide (row = x))) := by
 refine spec_of Tryz.func189 rfl rfl rfl (fun B => ?_)
 refine cS (cr (sg rfl (ln (qc (cS (cr (mv rfl (ld rfl ‹_› (cP rfl rfl (equal_ok row x ‹_› ‹_›) ?_)))))))))
 refine sg rfl (ln (qc (rt (kq_retP rfl rfl (congrArg Value.bool ?_)))))
 rfl
theorem satisfied_ok {Hcv : Hp} {vcv : Value} {Hca : Hp} {vca : Value} {Hcr : Hp} {vcr : Value} {Hx : Hp} {vx : Value} (c : Con) (x : List Int) (hs : SatOk c x) (hcv : Ints Hcv vcv c.vars) (hca : Ints Hca vca c.args) (hcr : Rows Hcr vcr c.rows) (hx : Ints Hx vx x) : SpecP Tryz.prog 175 [.agg #[.int .i64 c.kind, vcv, vca, .int .i64 c.bound, vcr], vx] [Hcv, Hca, Hcr, Hx] (.bool (satB c x)) := by
 have h4 := hs.four
 have h1 := hs.one
 refine spec_of Tryz.func175 rfl rfl rfl (fun B => ?_)
 refine cS (cr (kl_box rfl rfl (fun p1 H2 f3 a4 => ?_)))
 refine kl_box rfl (Sl.cells ‹_›) (fun p5 H6 f7 a8 => ?_)
 refine sg rfl (ln (qc (cS (cS (cr (fd9 rfl ‹_› (fun p9 a10 => ?_)))))))
 refine ld rfl ‹_› (ln (qc (bl (cS (cr (eq9 rfl rfl ?_))))))
 refine sg rfl (ln (qc (ci9 rfl (fun c11 => ?_) (fun c11 => ?_))))
 ·have hk := hs.k1 c11
  refine cS (kc_tree (fun i => ([] : List Nat).contains i) [] (by kernel_rfl) ?_)
  refine tq 0 nsl rfl (fd9 rfl ‹_› (fun p12 a13 => ?_))
  refine ln (qq (tq 1 nsl rfl (ld rfl ‹_› (ln (qq (tq 2 nsl rfl (ld rfl ‹_› (ln (qq (tq 4 nsl rfl (fd9 rfl ‹_› (fun p14 a15 => ?_))))))))))))
  refine ln (qq (tq 5 nsl rfl (ld rfl ‹_› (ln (qq (ta 3 rfl (cP rfl rfl (weighted_ok c.args x hk.2 hs.val hk.1 hs.four ‹_› ‹_›) ?_)))))))
  refine ln (qa nsl (tq 6 nsl rfl (kl_leq rfl rfl ?_)))
  refine ln (qq (tq 7 nsl rfl (sg rfl (ln (qq (kt_end (by kernel_rfl) ?_))))))
  refine qc (rt (kq_retP rfl rfl (congrArg Value.bool ?_)))
  rw [sat_1 ‹_›]
 ·refine cS (cr (eq9 rfl rfl ?_))
  refine sg rfl (ln (qc (ci9 rfl (fun c16 => ?_) (fun c16 => ?_))))
  ·have hk := hs.k2 c16
   have hk1 := hs.val.at (k := 1) (by omega)
   have hk2 := hk.2.2.at (k := 0) (by omega)
   refine cS (kc_draw 13 [true, true, true, true, true, true, true, true, true, true, true, true, true] (by kernel_rfl) (by kernel_rfl) ?_)
   refine ld rfl ‹_› (kl_inI (i := 0) rfl rfl ‹_› (by omega) (fun p17 a18 => ?_))
   refine ld rfl ‹_› (ld rfl ‹_› (kl_inI (i := 1) rfl rfl ‹_› (by omega) (fun p19 a20 => ?_)))
   refine ld rfl ‹_› (fd9 rfl ‹_› (fun p21 a22 => ?_))
   refine ld rfl ‹_› (kl_inI (i := 0) rfl rfl ‹_› (by omega) (fun p23 a24 => ?_))
   refine ld rfl ‹_› (ad9 rfl rfl (by omega) ?_)
   refine kl_neq rfl rfl ?_
   refine sg rfl (ln (qc (rt (kq_retP rfl rfl (congrArg Value.bool ?_)))))
   rw [sat_2 ‹_›]
  ·refine cS (cr (eq9 rfl rfl ?_))
   refine sg rfl (ln (qc (ci9 rfl (fun c25 => ?_) (fun c25 => ?_))))
   ·refine cS (cr (ld rfl ‹_› (cP rfl rfl (distinct_ok x ‹_›) ?_)))
    refine sg rfl (ln (qc (rt (kq_retP rfl rfl (congrArg Value.bool ?_)))))
    rw [sat_3 ‹_›]
   ·refine cS (cr (eq9 rfl rfl ?_))
    refine sg rfl (ln (qc (ci9 rfl (fun c26 => ?_) (fun c26 => ?_))))
    ·have hk := hs.k4 c26
     have hk1 := hs.val.at (k := 0) (by omega)
     refine cS (kc_draw 21 [true, true, true, true, true, true, true, true, true, true, true, true, true, true, true, true, true, true, true, true, true] (by kernel_rfl) (by kernel_rfl) ?_)
     refine ld rfl ‹_› (kl_inI (i := 0) rfl rfl ‹_› (by omega) (fun p27 a28 => ?_))
     refine ld rfl ‹_› (fd9 rfl ‹_› (fun p29 a30 => ?_))
     refine ld rfl ‹_› (le9 rfl ‹_› (fun l31 => ?_))
     refine ls9 rfl rfl ?_
     refine mv rfl (jn 12 58 (.bool (decide ((x.getD 0 0) < (c.args.length : Int)) && decide ((c.args.getD (x.getD 0 0).toNat 0) = (x.getD 1 0)))) (pk [3, 4, 46] rfl) (fun J41 => ?_) ?_)
     ·rcases Bool.eq_false_or_eq_true (decide ((x.getD 0 0) < (c.args.length : Int))) with g32 | g32
      ·have g32p := of_decide_eq_true g32
       refine gT rfl rfl g32 (fd9 rfl ‹_› (fun p33 a34 => ?_))
       refine gT rfl rfl g32 (ld rfl ‹_› (gT rfl rfl g32 (ld rfl ‹_› (gT rfl rfl g32 (kl_inI (i := 0) rfl rfl ‹_› (by omega) (fun p35 a36 => ?_))))))
       refine gT rfl rfl g32 (ld rfl ‹_› (gT rfl rfl g32 (kl_ixI rfl rfl ‹_› (by omega) (by omega) (fun p37 a38 => ?_))))
       refine gT rfl rfl g32 (ld rfl ‹_› (gT rfl rfl g32 (ld rfl ‹_› (gT rfl rfl g32 (kl_inI (i := 1) rfl rfl ‹_› (by omega) (fun p39 a40 => ?_))))))
       refine gT rfl rfl g32 (ld rfl ‹_› (gT rfl rfl g32 (eq9 rfl rfl ?_)))
       refine aT rfl rfl g32 ?_
       exact J41 _ (pk [58, 3, 4, 46] rfl)
      ·refine gF rfl rfl g32 (gF rfl rfl g32 (gF rfl rfl g32 (gF rfl rfl g32 (gF rfl rfl g32 (gF rfl rfl g32 (gF rfl rfl g32 (gF rfl rfl g32 (gF rfl rfl g32 ?_))))))))
       refine gF rfl rfl g32 (gF rfl rfl g32 (aF (decide ((c.args.getD (x.getD 0 0).toNat 0) = (x.getD 1 0))) rfl rfl g32 ?_))
       exact J41 _ (pk [58, 3, 4, 46] rfl)
     refine sg rfl (ln (qc (rt (kq_retP rfl rfl (congrArg Value.bool ?_)))))
     rw [sat_4 ‹_›]
    ·refine cS (cr (eq9 rfl rfl ?_))
     refine sg rfl (ln (qc (ci9 rfl (fun c42 => ?_) (fun c42 => ?_))))
     ·have hk := hs.k5 c42
      refine cS (cr (fd9 rfl ‹_› (fun p43 a44 => ?_)))
      refine ld rfl ‹_› (kl_mkf rfl ?_)
      refine cP rfl rfl (cf_row_ok c.rows (fun x44 => decide (x44 = x)) ‹_› (fun _ ux44 x44 _ hux44 => satisfied1_ok x44 x hux44 ‹_› ‹_›)) ?_
      refine sg rfl (ln (qc (rt (kq_retP rfl rfl (congrArg Value.bool ?_)))))
      rw [sat_5 ‹_›]
     ·refine cS (cr (eq9 rfl rfl ?_))
      refine sg rfl (ln (qc (ci9 rfl (fun c46 => ?_) (fun c46 => ?_))))
      ·have hk := hs.k6 c46
       refine cS (cr (sg rfl (ln (qc (cS (cS (cr (ld rfl ‹_› (le9 rfl ‹_› (fun l47 => ?_))))))))))
       refine mv rfl (ln (qc (bl (kc_loop0 (A := Nat × Int) (fun zz => (zz.1 ≤ x.length) ∧ (zz.2 = cntTo x (c.args.getD 0 0) zz.1)) (fun zz => x.length - zz.1) (fun zz => [(69, .int .i64 (zz.1 : Int)), (5, .int .i64 zz.2)]) (0, (0 : Int)) (pk [2, 3, 4, 67, 68] rfl) (pk [69, 5] rfl) ⟨Nat.zero_le _, rfl⟩ ?_))))
       rintro ⟨k, s⟩ hJ50
       obtain ⟨hk48, hi49⟩ : (k ≤ x.length) ∧ (s = cntTo x (c.args.getD 0 0) k) := hJ50
       change KC _ _ (_) _ _ ([(69, .int .i64 (k : Int)), (5, .int .i64 s)] ++ _)
       have hcl := cnt_le x (c.args.getD 0 0) k
       refine cS (cr (ls9 rfl rfl ?_))
       refine ln (qc (cS (ci9 rfl (fun c51 => ?_) (fun c51 => ?_))))
       ·refine sk (qc (cS (bl (cS (cr (kl_inI rfl rfl ‹_› (by omega) (fun p52 a53 => ?_)))))))
        refine ld rfl ‹_› (sg rfl (ln (qc (cS (cr (mv rfl (fd9 rfl ‹_› (fun p54 a55 => ?_))))))))
        refine ld rfl ‹_› (kl_inI (i := 0) rfl rfl ‹_› (by omega) (fun p56 a57 => ?_))
        refine ld rfl ‹_› (eq9 rfl rfl ?_)
        refine ln (qc (ci9 rfl (fun c58 => ?_) (fun c58 => ?_)))
        ·refine cr (mv rfl (ad9 rfl rfl (by omega) ?_))
         refine sg rfl (ln (qc (cr (ic9 rfl rfl (by omega) ?_))))
         refine mv rfl (ln (kq_round0 ((k + 1), (s + (1 : Int))) (by omega) (⟨by omega, (by first | exact cnt_stepT hi49 (by omega) ‹_› | exact cnt_stepF hi49 (by omega) ‹_›)⟩) (pk [69, 5] rfl) (pk [2, 3, 4, 67, 68] rfl) slr9))
        ·refine sk (qc (cr (ic9 rfl rfl (by omega) ?_)))
         refine mv rfl (ln (kq_round0 ((k + 1), s) (by omega) (⟨by omega, (by first | exact cnt_stepT hi49 (by omega) ‹_› | exact cnt_stepF hi49 (by omega) ‹_›)⟩) (pk [69, 5] rfl) (pk [2, 3, 4, 67, 68] rfl) slr9))
       ·refine ex9 (qc (cS (cr (mv rfl (fd9 rfl ‹_› (fun p59 a60 => ?_))))))
        refine ld rfl ‹_› (eq9 rfl rfl ?_)
        refine sg rfl (ln (qc (rt (kq_retP rfl rfl (congrArg Value.bool ?_)))))
        rw [sat_6 ‹_›, hi49, show k = x.length from by omega]
      ·refine cS (cr (eq9 rfl rfl ?_))
       refine sg rfl (ln (qc (ci9 rfl (fun c61 => ?_) (fun c61 => ?_))))
       ·refine cS (cr (kl_ldS rfl ‹_› rfl ?_))
        refine ld rfl ‹_› (cP rfl rfl (roomy_ok c x hs ‹_› ‹_› ‹_› ‹_› ‹_›) ?_)
        refine sg rfl (ln (qc (rt (kq_retP rfl rfl (congrArg Value.bool ?_)))))
        rw [sat_7 ‹_›]
       ·refine cS (cr (eq9 rfl rfl ?_))
        refine sg rfl (ln (qc (ci9 rfl (fun c62 => ?_) (fun c62 => ?_))))
        ·refine cS (cr (kl_ldS rfl ‹_› rfl ?_))
         refine ld rfl ‹_› (cP rfl rfl (accepts_ok c x hs ‹_› ‹_› ‹_› ‹_› ‹_›) ?_)
         refine sg rfl (ln (qc (rt (kq_retP rfl rfl (congrArg Value.bool ?_)))))
         rw [sat_8 ‹_›]
        ·refine sk (qc (cS (cr (ld rfl ‹_› (cP rfl rfl (cycle_ok x hs.one hs.four hs.val ‹_›) ?_)))))
         refine sg rfl (ln (qc (rt (kq_retP rfl rfl (congrArg Value.bool ?_)))))
         rw [sat_9 ‹_› ‹_› ‹_› ‹_› ‹_› ‹_› ‹_› ‹_›, cyc_eq hs.four hs.val hs.one]
end
section
theorem cloneC_ok {Hxs : Hp} {vxs : Value} (xs : List Con) (hb : xs.length ≤ 1000) (hxs : Cons Hxs vxs xs) : Spec Tryz.prog 150 [vxs] [Hxs] ((fun Hq vq => OwnL 88 5 Hq Hxs ConV vq xs)) := by
 refine spec_of Tryz.func150 rfl rfl rfl (fun B => ?_)
 refine cS (cr (sg rfl (ln (qc (cS (cS (cr (mv rfl (kl_eqlnilX rfl rfl ‹_› (fun bn nn nx => ?_))))))))))
 refine ln (qc (cd9 rfl (fun c3 => ?_) (fun c3 => ?_)))
 ·have c3r := c3
  try simp only [smpE] at c3
  refine cS (cr (sg rfl (ln (qc (rt ?_)))))
  exact kq_ret rfl rfl noHp (fr_no _) (by rw [nn ‹_›]; exact OwnL.nil)
 ·have c3r := c3
  try simp only [smpE] at c3
  refine sk (qc (cS (cr (kl_bs0k (K := Hxs) ConV rfl (fun v4 H5 f6 o7 => ?_)))))
  refine mv rfl (kl_apS rfl rfl o7 ‹_› (fun _ _ h => h) (by simp; omega) (by decide) (fun v8 H9 o10 f11 => ?_))
  have f12 := f11 B f6 (Nat.le_refl _)
  refine sg rfl (ln (qc (rt ?_)))
  exact kq_ret rfl rfl H9 f12 o10
theorem copyConI_ok {Hcv : Hp} {vcv : Value} {Hca : Hp} {vca : Value} {Hcr : Hp} {vcr : Value} (c : Con) (hc : ConSm 100 c) (hcv : Ints Hcv vcv c.vars) (hca : Ints Hca vca c.args) (hcr : Rows Hcr vcr c.rows) : Spec Tryz.prog 177 [.agg #[.int .i64 c.kind, vcv, vca, .int .i64 c.bound, vcr]] [Hcv, Hca, Hcr] (fun Hq vq => ConR Hq vq c) := by
 have h1 := hc.v1
 have h2 := hc.v
 have h3 := hc.a
 have h4 := hc.r
 have h5 := hc.rr
 refine spec_of Tryz.func177 rfl rfl rfl (fun B => ?_)
 refine cS (cr (kl_box rfl rfl (fun p1 H2 f3 a4 => ?_)))
 refine kl_alloc (cs := [.int .i64 (0 : Int), .slice none 0 0, .slice none 0 0, .int .i64 (0 : Int), .slice none 0 0]) rfl (fun b5 hb6 => ?_)
 refine ln (qc (cS (cr (fd9 rfl ‹_› (fun p7 a8 => ?_)))))
 refine ld rfl ‹_› (le9 rfl ‹_› (fun l9 => ?_))
 refine kl_mkL0 (R := RowV) rfl rfl (by omega) (by omega) (by decide) (fun v10 H11 f12 o13 => ?_)
 refine sg rfl (ln (qc (cS (cS (cr (fd9 rfl ‹_› (fun p14 a15 => ?_)))))))
 refine ld rfl ‹_› (le9 rfl ‹_› (fun l16 => ?_))
 refine mv rfl (ln (qc (bl (kc_loopK (A := Nat × List (List Int) × Value × Hp × Hp) (fun zz => (zz.1 ≤ c.rows.length) ∧ (zz.2.1 = c.rows.take zz.1) ∧ Fr B zz.2.2.2.2 ∧ OwnL 23 1 zz.2.2.2.1 zz.2.2.2.2 RowV zz.2.2.1 zz.2.1 ∧ Fr B zz.2.2.2.1) (fun zz => c.rows.length - zz.1) (fun zz => zz.2.2.2.2) (fun zz => [zz.2.2.2.1, bxS b5 [.int .i64 (0 : Int), .slice none 0 0, .slice none 0 0, .int .i64 (0 : Int), .slice none 0 0] 88]) (fun zz => [(13, .int .i64 (zz.1 : Int)), (3, zz.2.2.1)]) (0, ([]), v10, H11, noHp) (pk [1, 2, 11, 12] rfl) (pk [13, 3] rfl) rfl ⟨Nat.zero_le _, rfl, (fr_no _), o13, f12⟩ ?_))))
 rintro ⟨k, out, v22, H19, K23⟩ hJ25
 obtain ⟨hk17, hi18, f24, o20, f21⟩ : (k ≤ c.rows.length) ∧ (out = c.rows.take k) ∧ Fr B K23 ∧ OwnL 23 1 H19 K23 RowV v22 out ∧ Fr B H19 := hJ25
 change KC _ _ (K23 :: _) [H19, bxS b5 [.int .i64 (0 : Int), .slice none 0 0, .slice none 0 0, .int .i64 (0 : Int), .slice none 0 0] 88] _ ([(13, .int .i64 (k : Int)), (3, v22)] ++ _)
 refine cS (cr (ls9 rfl rfl ?_))
 refine ln (qc (cS (ci9 rfl (fun c26 => ?_) (fun c26 => ?_))))
 ·refine sk (qc (cS (bl (cS (cr (kl_inS rfl rfl ‹_› (by omega) (fun p27 u29 h30 a28 => ?_)))))))
  refine ld rfl ‹_› (sg rfl (ln (qc (cr (mv rfl (mv rfl (kl_call rfl rfl (copied_ok (c.rows.getD k []) (by first | omega | (have h6 := h5 _ (getD_mem (d := []) (by omega : k < c.rows.length)); omega)) ‹_›) (fun v31 H32 f33 o34 => ?_))))))))
  have h35 := OwnL.ints o34
  refine bs9 rfl rfl rfl (by decide) (ca (by first | exact Sl.cells ‹_› | exact OwnL.cells ‹_›) ca_nil) (fun v36 H37 f38 r39 s40 => ?_)
  refine cm9 K23 H32 (fun c41 => ?_)
  have o42 := OwnL.mono (K' := orHp K23 H32) o20 orL
  refine aL9 (c.rows.getD k []) rfl rfl o42 ‹_› ⟨_, rfl, Sl.mono ‹_› (orC c41) (fun _ _ h => h)⟩ (oc (Sl.oneCell ‹_›) oc_nil) (by (have h9 := congrArg List.length hi18; simp at h9; omega)) (by decide) (fun v43 H44 o45 f46 => ?_)
  have f47 := f46 B f21 (Nat.le_refl _)
  refine sg rfl (ln (qc (cr (ic9 rfl rfl (by omega) ?_))))
  refine mv rfl (ln (tk [H44, bxS b5 [.int .i64 (0 : Int), .slice none 0 0, .slice none 0 0, .int .i64 (0 : Int), .slice none 0 0] 88] ?_))
  refine kq_roundK ((k + 1), (out ++ [(c.rows.getD k [])]), v43, H44, (orHp K23 H32)) (by omega) (⟨by omega, (by rw [hi18, take_succ_getD [] (by omega)]), (fr_or f24 f33), o45, f47⟩) (pk [13, 3] rfl) (pk [1, 2, 11, 12] rfl) rfl slr9
 ·refine ex9 (qc (cS (kc_tree (fun i => ([11, 12] : List Nat).contains i) [] (by kernel_rfl) ?_)))
  refine tq 0 nsl rfl (fd9 rfl ‹_› (fun p48 a49 => ?_))
  refine ln (qq (tq 1 nsl rfl (ld rfl ‹_› (ln (qq (tq 2 nsl rfl (fd9 rfl ‹_› (fun p50 a51 => ?_))))))))
  refine ln (qq (tq 3 nsl rfl (ld rfl ‹_› (ln (qq (tq 5 nsl rfl (fd9 rfl ‹_› (fun p52 a53 => ?_))))))))
  refine ln (qq (tq 6 nsl rfl (ld rfl ‹_› (ln (qq (tq 8 nsl rfl (fd9 rfl ‹_› (fun p54 a55 => ?_))))))))
  refine ln (qq (tq 9 nsl rfl (ld rfl ‹_› (ln (qq (tq 10 nsl rfl (mv rfl (ln (qq (ta 4 rfl (kl_call rfl rfl (copied_ok c.vars (by first | omega | (have h6 := h5 _ (getD_mem (d := []) (by omega : k < c.rows.length)); omega)) ‹_›) (fun v56 H57 f58 o59 => ?_))))))))))))
  have h60 := OwnL.ints o59
  refine ln (qa nsl (ta 7 rfl (kl_call rfl rfl (copied_ok c.args (by first | omega | (have h6 := h5 _ (getD_mem (d := []) (by omega : k < c.rows.length)); omega)) ‹_›) (fun v61 H62 f63 o64 => ?_))))
  have h65 := OwnL.ints o64
  refine ln (qa nsl (ta 11 rfl (kl_bd rfl (cp rfl (cp (Sl.cells ‹_›) (cp (Sl.cells ‹_›) (cp rfl (cp (OwnL.cells ‹_›) cp_nil))))) rfl ?_)))
  refine ln (qx rfl (ta 12 rfl (kl_stW (us := [.int .i64 c.kind, v56, v61, .int .i64 c.bound, v22]) rfl rfl rfl rfl (oc rfl (oc (Sl.oneCell ‹_›) (oc (Sl.oneCell ‹_›) (oc rfl (oc (OwnL.oneCell ‹_›) oc_nil))))) rfl ?_)))
  refine cg [H19, bxS b5 [.int .i64 c.kind, v56, v61, .int .i64 c.bound, v22] 88] rfl ?_
  refine ln (qx rfl (kt_end (by kernel_rfl) ?_))
  refine qc (rt (kq_frz H19 ?_))
  refine kq_cmp H19 K23 (fun c66 => ?_)
  refine kq_cmp H62 (orHp H19 K23) (fun c67 => ?_)
  refine kq_cmp H57 (orHp H62 (orHp H19 K23)) (fun c68 => ?_)
  exact kq_retC rfl rfl rfl (orHp H57 (orHp H62 (orHp H19 K23))) (fr_or f58 (fr_or f63 (fr_or f21 f24))) ⟨_, rfl, _, _, _, rfl, (Sl.mono ‹_› (fun b o h => orL b o h) (fun _ _ h => h)), (Sl.mono ‹_› (fun b o h => orC c68 b o (orL b o h)) (fun _ _ h => h)), (by have e9 : out = c.rows := (by rw [hi18, List.take_of_length_le (by omega)]); rw [← e9]; exact (Rows.mono' (OwnL.rowsK o20 c66) (fun b o h => orC c68 b o (orC c67 b o h))))⟩
theorem copyModI_ok {Hmd : Hp} {vmd : Value} {Hmc : Hp} {vmc : Value} (m : Mod) (hm : ModSm 100 m) (hmd : Ints Hmd vmd m.doms) (hmc : Cons Hmc vmc m.cons) : Spec Tryz.prog 151 [.agg #[vmd, vmc]] [Hmd, Hmc] (fun Hq vq => ModR Hq vq m) := by
 have h1 := hm.d1
 have h2 := hm.d
 have h3 := hm.c
 have h4 := hm.cc
 refine spec_of Tryz.func151 rfl rfl rfl (fun B => ?_)
 refine cS (cr (kl_box rfl rfl (fun p1 H2 f3 a4 => ?_)))
 refine kl_alloc (cs := [.slice none 0 0, .slice none 0 0]) rfl (fun b5 hb6 => ?_)
 refine ln (qc (cS (kc_tree (fun i => ([7, 9] : List Nat).contains i) [] (by kernel_rfl) ?_)))
 refine tq 0 nsl rfl (fd9 rfl ‹_› (fun p7 a8 => ?_))
 refine ln (qq (tq 1 nsl rfl (ld rfl ‹_› (ln (qq (tq 3 nsl rfl (fd9 rfl ‹_› (fun p9 a10 => ?_))))))))
 refine ln (qq (tq 4 nsl rfl (ld rfl ‹_› (ln (qq (tq 5 nsl rfl (le9 rfl ‹_› (fun l11 => ?_))))))))
 refine ln (qq (kt_c 2 6 8 rfl rfl rfl (by kernel_rfl) ?_ ?_ ?_))
 ·refine kl_call rfl rfl (copied_ok m.doms (by omega) ‹_›) (fun v12 H13 f14 o15 => ?_)
  have h16 := OwnL.ints o15
  refine ln (qa nsl (kt_b 6 8 rfl rfl (by kernel_rfl) ?_ ?_))
  ·refine kl_mkL0 (R := ConV) rfl rfl (by omega) (by omega) (by decide) (fun v17 H18 f19 o20 => ?_)
   refine ln (qa nsl (kt_b 7 8 rfl rfl (by kernel_rfl) ?_ ?_))
   ·refine kl_bd rfl (cp (Sl.cells ‹_›) (cp (OwnL.cells ‹_›) cp_nil)) rfl ?_
    refine ln (qx rfl (ta 8 rfl (kl_alloc (cs := [.slice none 0 0, .slice none 0 0]) rfl (fun b21 hb22 => ?_))))
    refine ln (qa nsl (ta 9 rfl (kl_stW (us := [v12, v17]) rfl rfl rfl rfl (oc (Sl.oneCell ‹_›) (oc (OwnL.oneCell ‹_›) oc_nil)) rfl ?_)))
    refine cg [bxS b21 [v12, v17] 26, H18, bxS b5 [.slice none 0 0, .slice none 0 0] 26] rfl ?_
    refine ln (qx rfl (kt_end (by kernel_rfl) ?_))
    refine qc (cS (cS (cr (fd9 rfl ‹_› (fun p23 a24 => ?_)))))
    refine ld rfl ‹_› (le9 rfl ‹_› (fun l25 => ?_))
    refine mv rfl (ln (qc (bl (kc_loopK (A := Nat × List Con × Value × Hp × Hp) (fun zz => (zz.1 ≤ m.cons.length) ∧ (zz.2.1 = m.cons.take zz.1) ∧ Fr B zz.2.2.2.2 ∧ OwnL 88 5 zz.2.2.2.1 zz.2.2.2.2 ConV zz.2.2.1 zz.2.1 ∧ Fr B zz.2.2.2.1) (fun zz => m.cons.length - zz.1) (fun zz => zz.2.2.2.2) (fun zz => [bxS b21 [v12, zz.2.2.1] 26, zz.2.2.2.1, bxS b5 [.slice none 0 0, .slice none 0 0] 26]) (fun zz => [(17, .int .i64 (zz.1 : Int))]) (0, ([]), v17, H18, noHp) (pk [2, 3, 15, 16] rfl) (pc 17 rfl pn) rfl ⟨Nat.zero_le _, rfl, (fr_no _), o20, f19⟩ ?_))))
    rintro ⟨k, out, v31, H28, K32⟩ hJ34
    obtain ⟨hk26, hi27, f33, o29, f30⟩ : (k ≤ m.cons.length) ∧ (out = m.cons.take k) ∧ Fr B K32 ∧ OwnL 88 5 H28 K32 ConV v31 out ∧ Fr B H28 := hJ34
    change KC _ _ (K32 :: _) [bxS b21 [v12, v31] 26, H28, bxS b5 [.slice none 0 0, .slice none 0 0] 26] _ ([(17, .int .i64 (k : Int))] ++ _)
    refine cS (cr (ls9 rfl rfl ?_))
    refine ln (qc (cS (ci9 rfl (fun c35 => ?_) (fun c35 => ?_))))
    ·refine sk (qc (cS (bl (cS (cr (kl_inC rfl rfl ‹_› (by omega) (fun p36 u38 u39 u40 h41 h42 h43 a37 => ?_)))))))
     refine kl_ldS rfl ‹_› rfl ?_
     refine kl_alloc (cs := [.int .i64 (0 : Int), .slice none 0 0, .slice none 0 0, .int .i64 (0 : Int), .slice none 0 0]) rfl (fun b44 hb45 => ?_)
     refine kl_stW (us := [.int .i64 ((m.cons.getD k nilCon).kind), u38, u39, .int .i64 ((m.cons.getD k nilCon).bound), u40]) rfl rfl rfl rfl (oc rfl (oc (Sl.oneCell ‹_›) (oc (Sl.oneCell ‹_›) (oc rfl (oc (Sl.oneCell ‹_›) oc_nil))))) rfl ?_
     refine cg [bxS b44 [.int .i64 ((m.cons.getD k nilCon).kind), u38, u39, .int .i64 ((m.cons.getD k nilCon).bound), u40] 88, bxS b21 [v12, v31] 26, H28, bxS b5 [.slice none 0 0, .slice none 0 0] 26] rfl ?_
     refine ln (qc (kc_tree (fun i => ([5, 7] : List Nat).contains i) [bxS b44 [.int .i64 ((m.cons.getD k nilCon).kind), u38, u39, .int .i64 ((m.cons.getD k nilCon).bound), u40] 88, bxS b21 [v12, v31] 26] (by kernel_rfl) ?_))
     refine kt_q 0 (.cons_cons _ (.cons_cons _ nsl)) rfl (by kernel_rfl) (fV rfl (ln (qq (kt_q 1 (.cons_cons _ (.cons_cons _ nsl)) rfl (by kernel_rfl) (ld rfl (at_box (T := 26) (cs := [v12, v31]) (off := 1) (fz := (0, 0))) (ln (qq (kt_q 2 (.cons_cons _ (.cons_cons _ nsl)) rfl (by kernel_rfl) (kl_ldS rfl (at_box (T := 88) (cs := [.int .i64 ((m.cons.getD k nilCon).kind), u38, u39, .int .i64 ((m.cons.getD k nilCon).bound), u40]) (off := 0) (fz := (0, 0))) rfl ?_)))))))))
     refine ln (qq (ta 3 rfl (kl_call rfl rfl (copyConI_ok (m.cons.getD k nilCon) (h4 _ (getD_mem (by omega))) ‹_› ‹_› ‹_›) (fun v46 H47 f48 h49 => ?_))))
     obtain ⟨_, rfl, h53⟩ := h49
     have h53' := h53
     obtain ⟨u50, u51, u52, rfl, h54, h55, h56⟩ := h53
     refine ln (qa (.cons_cons _ (.cons_cons _ nsl)) (ta 4 rfl (kl_bsK rfl (fun v57 H58 f59 r60 => ?_))))
     refine ln (qa (.cons_cons _ (.cons_cons _ nsl)) (ta 5 rfl (cm9 K32 H47 (fun c61 => ?_))))
     have o62 := OwnL.mono (K' := orHp K32 H47) o29 orL
     refine aL9 (m.cons.getD k nilCon) rfl rfl o62 r60 (RMono.mono (orC c61) ‹_›) (oc rfl (oc (Sl.oneCell ‹_›) (oc (Sl.oneCell ‹_›) (oc rfl (oc (Sl.oneCell ‹_›) oc_nil))))) (by (have h9 := congrArg List.length hi27; simp at h9; omega)) (by decide) (fun v63 H64 o65 f66 => ?_)
     have f67 := f66 B f30 (Nat.le_refl _)
     refine ln (qx rfl (kt_q 6 (.cons_cons _ (.cons_cons _ nsl)) rfl (by kernel_rfl) (fV rfl (ln (qq (ta 7 rfl (sB rfl rfl rfl (OwnL.oneCell ‹_›) (OwnL.cells ‹_›) ?_)))))))
     refine cg [bxS b44 [.int .i64 ((m.cons.getD k nilCon).kind), u38, u39, .int .i64 ((m.cons.getD k nilCon).bound), u40] 88, bxS b21 [v12, v63] 26, H64, bxS b5 [.slice none 0 0, .slice none 0 0] 26] rfl ?_
     refine ln (qx rfl (kt_end (by kernel_rfl) ?_))
     refine qc (cr (ic9 rfl rfl (by omega) ?_))
     refine mv rfl (ln (tk [bxS b21 [v12, v63] 26, H64, bxS b5 [.slice none 0 0, .slice none 0 0] 26] ?_))
     refine kq_roundK ((k + 1), (out ++ [(m.cons.getD k nilCon)]), v63, H64, (orHp K32 H47)) (by omega) (⟨by omega, (by rw [hi27, take_succ_getD nilCon (by omega)]), (fr_or f33 f48), o65, f67⟩) (pc 17 rfl pn) (pk [2, 3, 15, 16] rfl) rfl slr9
    ·refine ex9 (qc (cS (cr (kl_ldW rfl rfl (kl_stW (us := [v12, v31]) rfl rfl rfl rfl (oc (Sl.oneCell ‹_›) (oc (OwnL.oneCell ‹_›) oc_nil)) rfl ?_)))))
     refine cg [bxS b21 [v12, v31] 26, H28, bxS b5 [v12, v31] 26] rfl ?_
     refine ln (qc (rt (kq_frz H28 ?_)))
     refine kq_cmp H28 K32 (fun c68 => ?_)
     refine kq_cmp H13 (orHp H28 K32) (fun c69 => ?_)
     exact kq_retC rfl rfl rfl (orHp H13 (orHp H28 K32)) (fr_or f14 (fr_or f30 f33)) ⟨_, _, rfl, (Sl.mono ‹_› (fun b o h => orL b o h) (fun _ _ h => h)), (by have e9 : out = m.cons := (by rw [hi27, List.take_of_length_le (by omega)]); rw [← e9]; exact (Cons.mono' (OwnL.consK o29 c68) (fun b o h => orC c69 b o h)))⟩
   ·refine kl_alloc (cs := [.slice none 0 0, .slice none 0 0]) rfl (fun b70 hb71 => ?_)
    refine ln (qa nsl (ta 7 rfl (kl_bd rfl (cp (Sl.cells ‹_›) (cp (OwnL.cells ‹_›) cp_nil)) rfl ?_)))
    refine ln (qx rfl (ta 9 rfl (kl_stW (us := [v12, v17]) rfl rfl rfl rfl (oc (Sl.oneCell ‹_›) (oc (OwnL.oneCell ‹_›) oc_nil)) rfl ?_)))
    refine cg [bxS b70 [v12, v17] 26, H18, bxS b5 [.slice none 0 0, .slice none 0 0] 26] rfl ?_
    refine ln (qx rfl (kt_end (by kernel_rfl) ?_))
    refine qc (cS (cS (cr (fd9 rfl ‹_› (fun p72 a73 => ?_)))))
    refine ld rfl ‹_› (le9 rfl ‹_› (fun l74 => ?_))
    refine mv rfl (ln (qc (bl (kc_loopK (A := Nat × List Con × Value × Hp × Hp) (fun zz => (zz.1 ≤ m.cons.length) ∧ (zz.2.1 = m.cons.take zz.1) ∧ Fr B zz.2.2.2.2 ∧ OwnL 88 5 zz.2.2.2.1 zz.2.2.2.2 ConV zz.2.2.1 zz.2.1 ∧ Fr B zz.2.2.2.1) (fun zz => m.cons.length - zz.1) (fun zz => zz.2.2.2.2) (fun zz => [bxS b70 [v12, zz.2.2.1] 26, zz.2.2.2.1, bxS b5 [.slice none 0 0, .slice none 0 0] 26]) (fun zz => [(17, .int .i64 (zz.1 : Int))]) (0, ([]), v17, H18, noHp) (pk [2, 3, 15, 16] rfl) (pc 17 rfl pn) rfl ⟨Nat.zero_le _, rfl, (fr_no _), o20, f19⟩ ?_))))
    rintro ⟨k, out, v80, H77, K81⟩ hJ83
    obtain ⟨hk75, hi76, f82, o78, f79⟩ : (k ≤ m.cons.length) ∧ (out = m.cons.take k) ∧ Fr B K81 ∧ OwnL 88 5 H77 K81 ConV v80 out ∧ Fr B H77 := hJ83
    change KC _ _ (K81 :: _) [bxS b70 [v12, v80] 26, H77, bxS b5 [.slice none 0 0, .slice none 0 0] 26] _ ([(17, .int .i64 (k : Int))] ++ _)
    refine cS (cr (ls9 rfl rfl ?_))
    refine ln (qc (cS (ci9 rfl (fun c84 => ?_) (fun c84 => ?_))))
    ·refine sk (qc (cS (bl (cS (cr (kl_inC rfl rfl ‹_› (by omega) (fun p85 u87 u88 u89 h90 h91 h92 a86 => ?_)))))))
     refine kl_ldS rfl ‹_› rfl ?_
     refine kl_alloc (cs := [.int .i64 (0 : Int), .slice none 0 0, .slice none 0 0, .int .i64 (0 : Int), .slice none 0 0]) rfl (fun b93 hb94 => ?_)
     refine kl_stW (us := [.int .i64 ((m.cons.getD k nilCon).kind), u87, u88, .int .i64 ((m.cons.getD k nilCon).bound), u89]) rfl rfl rfl rfl (oc rfl (oc (Sl.oneCell ‹_›) (oc (Sl.oneCell ‹_›) (oc rfl (oc (Sl.oneCell ‹_›) oc_nil))))) rfl ?_
     refine cg [bxS b93 [.int .i64 ((m.cons.getD k nilCon).kind), u87, u88, .int .i64 ((m.cons.getD k nilCon).bound), u89] 88, bxS b70 [v12, v80] 26, H77, bxS b5 [.slice none 0 0, .slice none 0 0] 26] rfl ?_
     refine ln (qc (kc_tree (fun i => ([5, 7] : List Nat).contains i) [bxS b93 [.int .i64 ((m.cons.getD k nilCon).kind), u87, u88, .int .i64 ((m.cons.getD k nilCon).bound), u89] 88, bxS b70 [v12, v80] 26] (by kernel_rfl) ?_))
     refine kt_q 0 (.cons_cons _ (.cons_cons _ nsl)) rfl (by kernel_rfl) (fV rfl (ln (qq (kt_q 1 (.cons_cons _ (.cons_cons _ nsl)) rfl (by kernel_rfl) (ld rfl (at_box (T := 26) (cs := [v12, v80]) (off := 1) (fz := (0, 0))) (ln (qq (kt_q 2 (.cons_cons _ (.cons_cons _ nsl)) rfl (by kernel_rfl) (kl_ldS rfl (at_box (T := 88) (cs := [.int .i64 ((m.cons.getD k nilCon).kind), u87, u88, .int .i64 ((m.cons.getD k nilCon).bound), u89]) (off := 0) (fz := (0, 0))) rfl ?_)))))))))
     refine ln (qq (ta 3 rfl (kl_call rfl rfl (copyConI_ok (m.cons.getD k nilCon) (h4 _ (getD_mem (by omega))) ‹_› ‹_› ‹_›) (fun v95 H96 f97 h98 => ?_))))
     obtain ⟨_, rfl, h102⟩ := h98
     have h102' := h102
     obtain ⟨u99, u100, u101, rfl, h103, h104, h105⟩ := h102
     refine ln (qa (.cons_cons _ (.cons_cons _ nsl)) (ta 4 rfl (kl_bsK rfl (fun v106 H107 f108 r109 => ?_))))
     refine ln (qa (.cons_cons _ (.cons_cons _ nsl)) (ta 5 rfl (cm9 K81 H96 (fun c110 => ?_))))
     have o111 := OwnL.mono (K' := orHp K81 H96) o78 orL
     refine aL9 (m.cons.getD k nilCon) rfl rfl o111 r109 (RMono.mono (orC c110) ‹_›) (oc rfl (oc (Sl.oneCell ‹_›) (oc (Sl.oneCell ‹_›) (oc rfl (oc (Sl.oneCell ‹_›) oc_nil))))) (by (have h9 := congrArg List.length hi76; simp at h9; omega)) (by decide) (fun v112 H113 o114 f115 => ?_)
     have f116 := f115 B f79 (Nat.le_refl _)
     refine ln (qx rfl (kt_q 6 (.cons_cons _ (.cons_cons _ nsl)) rfl (by kernel_rfl) (fV rfl (ln (qq (ta 7 rfl (sB rfl rfl rfl (OwnL.oneCell ‹_›) (OwnL.cells ‹_›) ?_)))))))
     refine cg [bxS b93 [.int .i64 ((m.cons.getD k nilCon).kind), u87, u88, .int .i64 ((m.cons.getD k nilCon).bound), u89] 88, bxS b70 [v12, v112] 26, H113, bxS b5 [.slice none 0 0, .slice none 0 0] 26] rfl ?_
     refine ln (qx rfl (kt_end (by kernel_rfl) ?_))
     refine qc (cr (ic9 rfl rfl (by omega) ?_))
     refine mv rfl (ln (tk [bxS b70 [v12, v112] 26, H113, bxS b5 [.slice none 0 0, .slice none 0 0] 26] ?_))
     refine kq_roundK ((k + 1), (out ++ [(m.cons.getD k nilCon)]), v112, H113, (orHp K81 H96)) (by omega) (⟨by omega, (by rw [hi76, take_succ_getD nilCon (by omega)]), (fr_or f82 f97), o114, f116⟩) (pc 17 rfl pn) (pk [2, 3, 15, 16] rfl) rfl slr9
    ·refine ex9 (qc (cS (cr (kl_ldW rfl rfl (kl_stW (us := [v12, v80]) rfl rfl rfl rfl (oc (Sl.oneCell ‹_›) (oc (OwnL.oneCell ‹_›) oc_nil)) rfl ?_)))))
     refine cg [bxS b70 [v12, v80] 26, H77, bxS b5 [v12, v80] 26] rfl ?_
     refine ln (qc (rt (kq_frz H77 ?_)))
     refine kq_cmp H77 K81 (fun c117 => ?_)
     refine kq_cmp H13 (orHp H77 K81) (fun c118 => ?_)
     exact kq_retC rfl rfl rfl (orHp H13 (orHp H77 K81)) (fr_or f14 (fr_or f79 f82)) ⟨_, _, rfl, (Sl.mono ‹_› (fun b o h => orL b o h) (fun _ _ h => h)), (by have e9 : out = m.cons := (by rw [hi76, List.take_of_length_le (by omega)]); rw [← e9]; exact (Cons.mono' (OwnL.consK o78 c117) (fun b o h => orC c118 b o h)))⟩
  ·refine kl_alloc (cs := [.slice none 0 0, .slice none 0 0]) rfl (fun b119 hb120 => ?_)
   refine ln (qa nsl (ta 6 rfl (kl_mkL0 (R := ConV) rfl rfl (by omega) (by omega) (by decide) (fun v121 H122 f123 o124 => ?_))))
   refine ln (qa nsl (ta 7 rfl (kl_bd rfl (cp (Sl.cells ‹_›) (cp (OwnL.cells ‹_›) cp_nil)) rfl ?_)))
   refine ln (qx rfl (ta 9 rfl (kl_stW (us := [v12, v121]) rfl rfl rfl rfl (oc (Sl.oneCell ‹_›) (oc (OwnL.oneCell ‹_›) oc_nil)) rfl ?_)))
   refine cg [H122, bxS b119 [v12, v121] 26, bxS b5 [.slice none 0 0, .slice none 0 0] 26] rfl ?_
   refine ln (qx rfl (kt_end (by kernel_rfl) ?_))
   refine qc (cS (cS (cr (fd9 rfl ‹_› (fun p125 a126 => ?_)))))
   refine ld rfl ‹_› (le9 rfl ‹_› (fun l127 => ?_))
   refine mv rfl (ln (qc (bl (kc_loopK (A := Nat × List Con × Value × Hp × Hp) (fun zz => (zz.1 ≤ m.cons.length) ∧ (zz.2.1 = m.cons.take zz.1) ∧ Fr B zz.2.2.2.2 ∧ OwnL 88 5 zz.2.2.2.1 zz.2.2.2.2 ConV zz.2.2.1 zz.2.1 ∧ Fr B zz.2.2.2.1) (fun zz => m.cons.length - zz.1) (fun zz => zz.2.2.2.2) (fun zz => [zz.2.2.2.1, bxS b119 [v12, zz.2.2.1] 26, bxS b5 [.slice none 0 0, .slice none 0 0] 26]) (fun zz => [(17, .int .i64 (zz.1 : Int))]) (0, ([]), v121, H122, noHp) (pk [2, 3, 15, 16] rfl) (pc 17 rfl pn) rfl ⟨Nat.zero_le _, rfl, (fr_no _), o124, f123⟩ ?_))))
   rintro ⟨k, out, v133, H130, K134⟩ hJ136
   obtain ⟨hk128, hi129, f135, o131, f132⟩ : (k ≤ m.cons.length) ∧ (out = m.cons.take k) ∧ Fr B K134 ∧ OwnL 88 5 H130 K134 ConV v133 out ∧ Fr B H130 := hJ136
   change KC _ _ (K134 :: _) [H130, bxS b119 [v12, v133] 26, bxS b5 [.slice none 0 0, .slice none 0 0] 26] _ ([(17, .int .i64 (k : Int))] ++ _)
   refine cS (cr (ls9 rfl rfl ?_))
   refine ln (qc (cS (ci9 rfl (fun c137 => ?_) (fun c137 => ?_))))
   ·refine sk (qc (cS (bl (cS (cr (kl_inC rfl rfl ‹_› (by omega) (fun p138 u140 u141 u142 h143 h144 h145 a139 => ?_)))))))
    refine kl_ldS rfl ‹_› rfl ?_
    refine kl_alloc (cs := [.int .i64 (0 : Int), .slice none 0 0, .slice none 0 0, .int .i64 (0 : Int), .slice none 0 0]) rfl (fun b146 hb147 => ?_)
    refine kl_stW (us := [.int .i64 ((m.cons.getD k nilCon).kind), u140, u141, .int .i64 ((m.cons.getD k nilCon).bound), u142]) rfl rfl rfl rfl (oc rfl (oc (Sl.oneCell ‹_›) (oc (Sl.oneCell ‹_›) (oc rfl (oc (Sl.oneCell ‹_›) oc_nil))))) rfl ?_
    refine cg [bxS b146 [.int .i64 ((m.cons.getD k nilCon).kind), u140, u141, .int .i64 ((m.cons.getD k nilCon).bound), u142] 88, H130, bxS b119 [v12, v133] 26, bxS b5 [.slice none 0 0, .slice none 0 0] 26] rfl ?_
    refine ln (qc (kc_tree (fun i => ([5, 7] : List Nat).contains i) [bxS b146 [.int .i64 ((m.cons.getD k nilCon).kind), u140, u141, .int .i64 ((m.cons.getD k nilCon).bound), u142] 88, bxS b119 [v12, v133] 26] (by kernel_rfl) ?_))
    refine kt_q 0 (.cons_cons _ (.cons _ (.cons_cons _ nsl))) rfl (by kernel_rfl) (fV rfl (ln (qq (kt_q 1 (.cons_cons _ (.cons _ (.cons_cons _ nsl))) rfl (by kernel_rfl) (ld rfl (at_box (T := 26) (cs := [v12, v133]) (off := 1) (fz := (0, 0))) (ln (qq (kt_q 2 (.cons_cons _ (.cons _ (.cons_cons _ nsl))) rfl (by kernel_rfl) (kl_ldS rfl (at_box (T := 88) (cs := [.int .i64 ((m.cons.getD k nilCon).kind), u140, u141, .int .i64 ((m.cons.getD k nilCon).bound), u142]) (off := 0) (fz := (0, 0))) rfl ?_)))))))))
    refine ln (qq (ta 3 rfl (kl_call rfl rfl (copyConI_ok (m.cons.getD k nilCon) (h4 _ (getD_mem (by omega))) ‹_› ‹_› ‹_›) (fun v148 H149 f150 h151 => ?_))))
    obtain ⟨_, rfl, h155⟩ := h151
    have h155' := h155
    obtain ⟨u152, u153, u154, rfl, h156, h157, h158⟩ := h155
    refine ln (qa (.cons_cons _ (.cons _ (.cons_cons _ nsl))) (ta 4 rfl (kl_bsK rfl (fun v159 H160 f161 r162 => ?_))))
    refine ln (qa (.cons_cons _ (.cons _ (.cons_cons _ nsl))) (ta 5 rfl (cm9 K134 H149 (fun c163 => ?_))))
    have o164 := OwnL.mono (K' := orHp K134 H149) o131 orL
    refine aL9 (m.cons.getD k nilCon) rfl rfl o164 r162 (RMono.mono (orC c163) ‹_›) (oc rfl (oc (Sl.oneCell ‹_›) (oc (Sl.oneCell ‹_›) (oc rfl (oc (Sl.oneCell ‹_›) oc_nil))))) (by (have h9 := congrArg List.length hi129; simp at h9; omega)) (by decide) (fun v165 H166 o167 f168 => ?_)
    have f169 := f168 B f132 (Nat.le_refl _)
    refine ln (qx rfl (kt_q 6 (.cons_cons _ (.cons _ (.cons_cons _ nsl))) rfl (by kernel_rfl) (fV rfl (ln (qq (ta 7 rfl (sB rfl rfl rfl (OwnL.oneCell ‹_›) (OwnL.cells ‹_›) ?_)))))))
    refine cg [bxS b146 [.int .i64 ((m.cons.getD k nilCon).kind), u140, u141, .int .i64 ((m.cons.getD k nilCon).bound), u142] 88, H166, bxS b119 [v12, v165] 26, bxS b5 [.slice none 0 0, .slice none 0 0] 26] rfl ?_
    refine ln (qx rfl (kt_end (by kernel_rfl) ?_))
    refine qc (cr (ic9 rfl rfl (by omega) ?_))
    refine mv rfl (ln (tk [H166, bxS b119 [v12, v165] 26, bxS b5 [.slice none 0 0, .slice none 0 0] 26] ?_))
    refine kq_roundK ((k + 1), (out ++ [(m.cons.getD k nilCon)]), v165, H166, (orHp K134 H149)) (by omega) (⟨by omega, (by rw [hi129, take_succ_getD nilCon (by omega)]), (fr_or f135 f150), o167, f169⟩) (pc 17 rfl pn) (pk [2, 3, 15, 16] rfl) rfl slr9
   ·refine ex9 (qc (cS (cr (kl_ldW rfl rfl (kl_stW (us := [v12, v133]) rfl rfl rfl rfl (oc (Sl.oneCell ‹_›) (oc (OwnL.oneCell ‹_›) oc_nil)) rfl ?_)))))
    refine cg [H130, bxS b119 [v12, v133] 26, bxS b5 [v12, v133] 26] rfl ?_
    refine ln (qc (rt (kq_frz H130 ?_)))
    refine kq_cmp H130 K134 (fun c170 => ?_)
    refine kq_cmp H13 (orHp H130 K134) (fun c171 => ?_)
    exact kq_retC rfl rfl rfl (orHp H13 (orHp H130 K134)) (fr_or f14 (fr_or f132 f135)) ⟨_, _, rfl, (Sl.mono ‹_› (fun b o h => orL b o h) (fun _ _ h => h)), (by have e9 : out = m.cons := (by rw [hi129, List.take_of_length_le (by omega)]); rw [← e9]; exact (Cons.mono' (OwnL.consK o131 c170) (fun b o h => orC c171 b o h)))⟩
 ·refine kl_mkL0 (R := ConV) rfl rfl (by omega) (by omega) (by decide) (fun v172 H173 f174 o175 => ?_)
  refine ln (qa nsl (kt_b 2 8 rfl rfl (by kernel_rfl) ?_ ?_))
  ·refine kl_call rfl rfl (copied_ok m.doms (by omega) ‹_›) (fun v176 H177 f178 o179 => ?_)
   have h180 := OwnL.ints o179
   refine ln (qa nsl (kt_b 7 8 rfl rfl (by kernel_rfl) ?_ ?_))
   ·refine kl_bd rfl (cp (Sl.cells ‹_›) (cp (OwnL.cells ‹_›) cp_nil)) rfl ?_
    refine ln (qx rfl (ta 8 rfl (kl_alloc (cs := [.slice none 0 0, .slice none 0 0]) rfl (fun b181 hb182 => ?_))))
    refine ln (qa nsl (ta 9 rfl (kl_stW (us := [v176, v172]) rfl rfl rfl rfl (oc (Sl.oneCell ‹_›) (oc (OwnL.oneCell ‹_›) oc_nil)) rfl ?_)))
    refine cg [bxS b181 [v176, v172] 26, H173, bxS b5 [.slice none 0 0, .slice none 0 0] 26] rfl ?_
    refine ln (qx rfl (kt_end (by kernel_rfl) ?_))
    refine qc (cS (cS (cr (fd9 rfl ‹_› (fun p183 a184 => ?_)))))
    refine ld rfl ‹_› (le9 rfl ‹_› (fun l185 => ?_))
    refine mv rfl (ln (qc (bl (kc_loopK (A := Nat × List Con × Value × Hp × Hp) (fun zz => (zz.1 ≤ m.cons.length) ∧ (zz.2.1 = m.cons.take zz.1) ∧ Fr B zz.2.2.2.2 ∧ OwnL 88 5 zz.2.2.2.1 zz.2.2.2.2 ConV zz.2.2.1 zz.2.1 ∧ Fr B zz.2.2.2.1) (fun zz => m.cons.length - zz.1) (fun zz => zz.2.2.2.2) (fun zz => [bxS b181 [v176, zz.2.2.1] 26, zz.2.2.2.1, bxS b5 [.slice none 0 0, .slice none 0 0] 26]) (fun zz => [(17, .int .i64 (zz.1 : Int))]) (0, ([]), v172, H173, noHp) (pk [2, 3, 15, 16] rfl) (pc 17 rfl pn) rfl ⟨Nat.zero_le _, rfl, (fr_no _), o175, f174⟩ ?_))))
    rintro ⟨k, out, v191, H188, K192⟩ hJ194
    obtain ⟨hk186, hi187, f193, o189, f190⟩ : (k ≤ m.cons.length) ∧ (out = m.cons.take k) ∧ Fr B K192 ∧ OwnL 88 5 H188 K192 ConV v191 out ∧ Fr B H188 := hJ194
    change KC _ _ (K192 :: _) [bxS b181 [v176, v191] 26, H188, bxS b5 [.slice none 0 0, .slice none 0 0] 26] _ ([(17, .int .i64 (k : Int))] ++ _)
    refine cS (cr (ls9 rfl rfl ?_))
    refine ln (qc (cS (ci9 rfl (fun c195 => ?_) (fun c195 => ?_))))
    ·refine sk (qc (cS (bl (cS (cr (kl_inC rfl rfl ‹_› (by omega) (fun p196 u198 u199 u200 h201 h202 h203 a197 => ?_)))))))
     refine kl_ldS rfl ‹_› rfl ?_
     refine kl_alloc (cs := [.int .i64 (0 : Int), .slice none 0 0, .slice none 0 0, .int .i64 (0 : Int), .slice none 0 0]) rfl (fun b204 hb205 => ?_)
     refine kl_stW (us := [.int .i64 ((m.cons.getD k nilCon).kind), u198, u199, .int .i64 ((m.cons.getD k nilCon).bound), u200]) rfl rfl rfl rfl (oc rfl (oc (Sl.oneCell ‹_›) (oc (Sl.oneCell ‹_›) (oc rfl (oc (Sl.oneCell ‹_›) oc_nil))))) rfl ?_
     refine cg [bxS b204 [.int .i64 ((m.cons.getD k nilCon).kind), u198, u199, .int .i64 ((m.cons.getD k nilCon).bound), u200] 88, bxS b181 [v176, v191] 26, H188, bxS b5 [.slice none 0 0, .slice none 0 0] 26] rfl ?_
     refine ln (qc (kc_tree (fun i => ([5, 7] : List Nat).contains i) [bxS b204 [.int .i64 ((m.cons.getD k nilCon).kind), u198, u199, .int .i64 ((m.cons.getD k nilCon).bound), u200] 88, bxS b181 [v176, v191] 26] (by kernel_rfl) ?_))
     refine kt_q 0 (.cons_cons _ (.cons_cons _ nsl)) rfl (by kernel_rfl) (fV rfl (ln (qq (kt_q 1 (.cons_cons _ (.cons_cons _ nsl)) rfl (by kernel_rfl) (ld rfl (at_box (T := 26) (cs := [v176, v191]) (off := 1) (fz := (0, 0))) (ln (qq (kt_q 2 (.cons_cons _ (.cons_cons _ nsl)) rfl (by kernel_rfl) (kl_ldS rfl (at_box (T := 88) (cs := [.int .i64 ((m.cons.getD k nilCon).kind), u198, u199, .int .i64 ((m.cons.getD k nilCon).bound), u200]) (off := 0) (fz := (0, 0))) rfl ?_)))))))))
     refine ln (qq (ta 3 rfl (kl_call rfl rfl (copyConI_ok (m.cons.getD k nilCon) (h4 _ (getD_mem (by omega))) ‹_› ‹_› ‹_›) (fun v206 H207 f208 h209 => ?_))))
     obtain ⟨_, rfl, h213⟩ := h209
     have h213' := h213
     obtain ⟨u210, u211, u212, rfl, h214, h215, h216⟩ := h213
     refine ln (qa (.cons_cons _ (.cons_cons _ nsl)) (ta 4 rfl (kl_bsK rfl (fun v217 H218 f219 r220 => ?_))))
     refine ln (qa (.cons_cons _ (.cons_cons _ nsl)) (ta 5 rfl (cm9 K192 H207 (fun c221 => ?_))))
     have o222 := OwnL.mono (K' := orHp K192 H207) o189 orL
     refine aL9 (m.cons.getD k nilCon) rfl rfl o222 r220 (RMono.mono (orC c221) ‹_›) (oc rfl (oc (Sl.oneCell ‹_›) (oc (Sl.oneCell ‹_›) (oc rfl (oc (Sl.oneCell ‹_›) oc_nil))))) (by (have h9 := congrArg List.length hi187; simp at h9; omega)) (by decide) (fun v223 H224 o225 f226 => ?_)
     have f227 := f226 B f190 (Nat.le_refl _)
     refine ln (qx rfl (kt_q 6 (.cons_cons _ (.cons_cons _ nsl)) rfl (by kernel_rfl) (fV rfl (ln (qq (ta 7 rfl (sB rfl rfl rfl (OwnL.oneCell ‹_›) (OwnL.cells ‹_›) ?_)))))))
     refine cg [bxS b204 [.int .i64 ((m.cons.getD k nilCon).kind), u198, u199, .int .i64 ((m.cons.getD k nilCon).bound), u200] 88, bxS b181 [v176, v223] 26, H224, bxS b5 [.slice none 0 0, .slice none 0 0] 26] rfl ?_
     refine ln (qx rfl (kt_end (by kernel_rfl) ?_))
     refine qc (cr (ic9 rfl rfl (by omega) ?_))
     refine mv rfl (ln (tk [bxS b181 [v176, v223] 26, H224, bxS b5 [.slice none 0 0, .slice none 0 0] 26] ?_))
     refine kq_roundK ((k + 1), (out ++ [(m.cons.getD k nilCon)]), v223, H224, (orHp K192 H207)) (by omega) (⟨by omega, (by rw [hi187, take_succ_getD nilCon (by omega)]), (fr_or f193 f208), o225, f227⟩) (pc 17 rfl pn) (pk [2, 3, 15, 16] rfl) rfl slr9
    ·refine ex9 (qc (cS (cr (kl_ldW rfl rfl (kl_stW (us := [v176, v191]) rfl rfl rfl rfl (oc (Sl.oneCell ‹_›) (oc (OwnL.oneCell ‹_›) oc_nil)) rfl ?_)))))
     refine cg [bxS b181 [v176, v191] 26, H188, bxS b5 [v176, v191] 26] rfl ?_
     refine ln (qc (rt (kq_frz H188 ?_)))
     refine kq_cmp H188 K192 (fun c228 => ?_)
     refine kq_cmp H177 (orHp H188 K192) (fun c229 => ?_)
     exact kq_retC rfl rfl rfl (orHp H177 (orHp H188 K192)) (fr_or f178 (fr_or f190 f193)) ⟨_, _, rfl, (Sl.mono ‹_› (fun b o h => orL b o h) (fun _ _ h => h)), (by have e9 : out = m.cons := (by rw [hi187, List.take_of_length_le (by omega)]); rw [← e9]; exact (Cons.mono' (OwnL.consK o189 c228) (fun b o h => orC c229 b o h)))⟩
   ·refine kl_alloc (cs := [.slice none 0 0, .slice none 0 0]) rfl (fun b230 hb231 => ?_)
    refine ln (qa nsl (ta 7 rfl (kl_bd rfl (cp (Sl.cells ‹_›) (cp (OwnL.cells ‹_›) cp_nil)) rfl ?_)))
    refine ln (qx rfl (ta 9 rfl (kl_stW (us := [v176, v172]) rfl rfl rfl rfl (oc (Sl.oneCell ‹_›) (oc (OwnL.oneCell ‹_›) oc_nil)) rfl ?_)))
    refine cg [bxS b230 [v176, v172] 26, H173, bxS b5 [.slice none 0 0, .slice none 0 0] 26] rfl ?_
    refine ln (qx rfl (kt_end (by kernel_rfl) ?_))
    refine qc (cS (cS (cr (fd9 rfl ‹_› (fun p232 a233 => ?_)))))
    refine ld rfl ‹_› (le9 rfl ‹_› (fun l234 => ?_))
    refine mv rfl (ln (qc (bl (kc_loopK (A := Nat × List Con × Value × Hp × Hp) (fun zz => (zz.1 ≤ m.cons.length) ∧ (zz.2.1 = m.cons.take zz.1) ∧ Fr B zz.2.2.2.2 ∧ OwnL 88 5 zz.2.2.2.1 zz.2.2.2.2 ConV zz.2.2.1 zz.2.1 ∧ Fr B zz.2.2.2.1) (fun zz => m.cons.length - zz.1) (fun zz => zz.2.2.2.2) (fun zz => [bxS b230 [v176, zz.2.2.1] 26, zz.2.2.2.1, bxS b5 [.slice none 0 0, .slice none 0 0] 26]) (fun zz => [(17, .int .i64 (zz.1 : Int))]) (0, ([]), v172, H173, noHp) (pk [2, 3, 15, 16] rfl) (pc 17 rfl pn) rfl ⟨Nat.zero_le _, rfl, (fr_no _), o175, f174⟩ ?_))))
    rintro ⟨k, out, v240, H237, K241⟩ hJ243
    obtain ⟨hk235, hi236, f242, o238, f239⟩ : (k ≤ m.cons.length) ∧ (out = m.cons.take k) ∧ Fr B K241 ∧ OwnL 88 5 H237 K241 ConV v240 out ∧ Fr B H237 := hJ243
    change KC _ _ (K241 :: _) [bxS b230 [v176, v240] 26, H237, bxS b5 [.slice none 0 0, .slice none 0 0] 26] _ ([(17, .int .i64 (k : Int))] ++ _)
    refine cS (cr (ls9 rfl rfl ?_))
    refine ln (qc (cS (ci9 rfl (fun c244 => ?_) (fun c244 => ?_))))
    ·refine sk (qc (cS (bl (cS (cr (kl_inC rfl rfl ‹_› (by omega) (fun p245 u247 u248 u249 h250 h251 h252 a246 => ?_)))))))
     refine kl_ldS rfl ‹_› rfl ?_
     refine kl_alloc (cs := [.int .i64 (0 : Int), .slice none 0 0, .slice none 0 0, .int .i64 (0 : Int), .slice none 0 0]) rfl (fun b253 hb254 => ?_)
     refine kl_stW (us := [.int .i64 ((m.cons.getD k nilCon).kind), u247, u248, .int .i64 ((m.cons.getD k nilCon).bound), u249]) rfl rfl rfl rfl (oc rfl (oc (Sl.oneCell ‹_›) (oc (Sl.oneCell ‹_›) (oc rfl (oc (Sl.oneCell ‹_›) oc_nil))))) rfl ?_
     refine cg [bxS b253 [.int .i64 ((m.cons.getD k nilCon).kind), u247, u248, .int .i64 ((m.cons.getD k nilCon).bound), u249] 88, bxS b230 [v176, v240] 26, H237, bxS b5 [.slice none 0 0, .slice none 0 0] 26] rfl ?_
     refine ln (qc (kc_tree (fun i => ([5, 7] : List Nat).contains i) [bxS b253 [.int .i64 ((m.cons.getD k nilCon).kind), u247, u248, .int .i64 ((m.cons.getD k nilCon).bound), u249] 88, bxS b230 [v176, v240] 26] (by kernel_rfl) ?_))
     refine kt_q 0 (.cons_cons _ (.cons_cons _ nsl)) rfl (by kernel_rfl) (fV rfl (ln (qq (kt_q 1 (.cons_cons _ (.cons_cons _ nsl)) rfl (by kernel_rfl) (ld rfl (at_box (T := 26) (cs := [v176, v240]) (off := 1) (fz := (0, 0))) (ln (qq (kt_q 2 (.cons_cons _ (.cons_cons _ nsl)) rfl (by kernel_rfl) (kl_ldS rfl (at_box (T := 88) (cs := [.int .i64 ((m.cons.getD k nilCon).kind), u247, u248, .int .i64 ((m.cons.getD k nilCon).bound), u249]) (off := 0) (fz := (0, 0))) rfl ?_)))))))))
     refine ln (qq (ta 3 rfl (kl_call rfl rfl (copyConI_ok (m.cons.getD k nilCon) (h4 _ (getD_mem (by omega))) ‹_› ‹_› ‹_›) (fun v255 H256 f257 h258 => ?_))))
     obtain ⟨_, rfl, h262⟩ := h258
     have h262' := h262
     obtain ⟨u259, u260, u261, rfl, h263, h264, h265⟩ := h262
     refine ln (qa (.cons_cons _ (.cons_cons _ nsl)) (ta 4 rfl (kl_bsK rfl (fun v266 H267 f268 r269 => ?_))))
     refine ln (qa (.cons_cons _ (.cons_cons _ nsl)) (ta 5 rfl (cm9 K241 H256 (fun c270 => ?_))))
     have o271 := OwnL.mono (K' := orHp K241 H256) o238 orL
     refine aL9 (m.cons.getD k nilCon) rfl rfl o271 r269 (RMono.mono (orC c270) ‹_›) (oc rfl (oc (Sl.oneCell ‹_›) (oc (Sl.oneCell ‹_›) (oc rfl (oc (Sl.oneCell ‹_›) oc_nil))))) (by (have h9 := congrArg List.length hi236; simp at h9; omega)) (by decide) (fun v272 H273 o274 f275 => ?_)
     have f276 := f275 B f239 (Nat.le_refl _)
     refine ln (qx rfl (kt_q 6 (.cons_cons _ (.cons_cons _ nsl)) rfl (by kernel_rfl) (fV rfl (ln (qq (ta 7 rfl (sB rfl rfl rfl (OwnL.oneCell ‹_›) (OwnL.cells ‹_›) ?_)))))))
     refine cg [bxS b253 [.int .i64 ((m.cons.getD k nilCon).kind), u247, u248, .int .i64 ((m.cons.getD k nilCon).bound), u249] 88, bxS b230 [v176, v272] 26, H273, bxS b5 [.slice none 0 0, .slice none 0 0] 26] rfl ?_
     refine ln (qx rfl (kt_end (by kernel_rfl) ?_))
     refine qc (cr (ic9 rfl rfl (by omega) ?_))
     refine mv rfl (ln (tk [bxS b230 [v176, v272] 26, H273, bxS b5 [.slice none 0 0, .slice none 0 0] 26] ?_))
     refine kq_roundK ((k + 1), (out ++ [(m.cons.getD k nilCon)]), v272, H273, (orHp K241 H256)) (by omega) (⟨by omega, (by rw [hi236, take_succ_getD nilCon (by omega)]), (fr_or f242 f257), o274, f276⟩) (pc 17 rfl pn) (pk [2, 3, 15, 16] rfl) rfl slr9
    ·refine ex9 (qc (cS (cr (kl_ldW rfl rfl (kl_stW (us := [v176, v240]) rfl rfl rfl rfl (oc (Sl.oneCell ‹_›) (oc (OwnL.oneCell ‹_›) oc_nil)) rfl ?_)))))
     refine cg [bxS b230 [v176, v240] 26, H237, bxS b5 [v176, v240] 26] rfl ?_
     refine ln (qc (rt (kq_frz H237 ?_)))
     refine kq_cmp H237 K241 (fun c277 => ?_)
     refine kq_cmp H177 (orHp H237 K241) (fun c278 => ?_)
     exact kq_retC rfl rfl rfl (orHp H177 (orHp H237 K241)) (fr_or f178 (fr_or f239 f242)) ⟨_, _, rfl, (Sl.mono ‹_› (fun b o h => orL b o h) (fun _ _ h => h)), (by have e9 : out = m.cons := (by rw [hi236, List.take_of_length_le (by omega)]); rw [← e9]; exact (Cons.mono' (OwnL.consK o238 c277) (fun b o h => orC c278 b o h)))⟩
  ·refine kl_alloc (cs := [.slice none 0 0, .slice none 0 0]) rfl (fun b279 hb280 => ?_)
   refine ln (qa nsl (ta 2 rfl (kl_call rfl rfl (copied_ok m.doms (by omega) ‹_›) (fun v281 H282 f283 o284 => ?_))))
   have h285 := OwnL.ints o284
   refine ln (qa nsl (ta 7 rfl (kl_bd rfl (cp (Sl.cells ‹_›) (cp (OwnL.cells ‹_›) cp_nil)) rfl ?_)))
   refine ln (qx rfl (ta 9 rfl (kl_stW (us := [v281, v172]) rfl rfl rfl rfl (oc (Sl.oneCell ‹_›) (oc (OwnL.oneCell ‹_›) oc_nil)) rfl ?_)))
   refine cg [bxS b279 [v281, v172] 26, H173, bxS b5 [.slice none 0 0, .slice none 0 0] 26] rfl ?_
   refine ln (qx rfl (kt_end (by kernel_rfl) ?_))
   refine qc (cS (cS (cr (fd9 rfl ‹_› (fun p286 a287 => ?_)))))
   refine ld rfl ‹_› (le9 rfl ‹_› (fun l288 => ?_))
   refine mv rfl (ln (qc (bl (kc_loopK (A := Nat × List Con × Value × Hp × Hp) (fun zz => (zz.1 ≤ m.cons.length) ∧ (zz.2.1 = m.cons.take zz.1) ∧ Fr B zz.2.2.2.2 ∧ OwnL 88 5 zz.2.2.2.1 zz.2.2.2.2 ConV zz.2.2.1 zz.2.1 ∧ Fr B zz.2.2.2.1) (fun zz => m.cons.length - zz.1) (fun zz => zz.2.2.2.2) (fun zz => [bxS b279 [v281, zz.2.2.1] 26, zz.2.2.2.1, bxS b5 [.slice none 0 0, .slice none 0 0] 26]) (fun zz => [(17, .int .i64 (zz.1 : Int))]) (0, ([]), v172, H173, noHp) (pk [2, 3, 15, 16] rfl) (pc 17 rfl pn) rfl ⟨Nat.zero_le _, rfl, (fr_no _), o175, f174⟩ ?_))))
   rintro ⟨k, out, v294, H291, K295⟩ hJ297
   obtain ⟨hk289, hi290, f296, o292, f293⟩ : (k ≤ m.cons.length) ∧ (out = m.cons.take k) ∧ Fr B K295 ∧ OwnL 88 5 H291 K295 ConV v294 out ∧ Fr B H291 := hJ297
   change KC _ _ (K295 :: _) [bxS b279 [v281, v294] 26, H291, bxS b5 [.slice none 0 0, .slice none 0 0] 26] _ ([(17, .int .i64 (k : Int))] ++ _)
   refine cS (cr (ls9 rfl rfl ?_))
   refine ln (qc (cS (ci9 rfl (fun c298 => ?_) (fun c298 => ?_))))
   ·refine sk (qc (cS (bl (cS (cr (kl_inC rfl rfl ‹_› (by omega) (fun p299 u301 u302 u303 h304 h305 h306 a300 => ?_)))))))
    refine kl_ldS rfl ‹_› rfl ?_
    refine kl_alloc (cs := [.int .i64 (0 : Int), .slice none 0 0, .slice none 0 0, .int .i64 (0 : Int), .slice none 0 0]) rfl (fun b307 hb308 => ?_)
    refine kl_stW (us := [.int .i64 ((m.cons.getD k nilCon).kind), u301, u302, .int .i64 ((m.cons.getD k nilCon).bound), u303]) rfl rfl rfl rfl (oc rfl (oc (Sl.oneCell ‹_›) (oc (Sl.oneCell ‹_›) (oc rfl (oc (Sl.oneCell ‹_›) oc_nil))))) rfl ?_
    refine cg [bxS b307 [.int .i64 ((m.cons.getD k nilCon).kind), u301, u302, .int .i64 ((m.cons.getD k nilCon).bound), u303] 88, bxS b279 [v281, v294] 26, H291, bxS b5 [.slice none 0 0, .slice none 0 0] 26] rfl ?_
    refine ln (qc (kc_tree (fun i => ([5, 7] : List Nat).contains i) [bxS b307 [.int .i64 ((m.cons.getD k nilCon).kind), u301, u302, .int .i64 ((m.cons.getD k nilCon).bound), u303] 88, bxS b279 [v281, v294] 26] (by kernel_rfl) ?_))
    refine kt_q 0 (.cons_cons _ (.cons_cons _ nsl)) rfl (by kernel_rfl) (fV rfl (ln (qq (kt_q 1 (.cons_cons _ (.cons_cons _ nsl)) rfl (by kernel_rfl) (ld rfl (at_box (T := 26) (cs := [v281, v294]) (off := 1) (fz := (0, 0))) (ln (qq (kt_q 2 (.cons_cons _ (.cons_cons _ nsl)) rfl (by kernel_rfl) (kl_ldS rfl (at_box (T := 88) (cs := [.int .i64 ((m.cons.getD k nilCon).kind), u301, u302, .int .i64 ((m.cons.getD k nilCon).bound), u303]) (off := 0) (fz := (0, 0))) rfl ?_)))))))))
    refine ln (qq (ta 3 rfl (kl_call rfl rfl (copyConI_ok (m.cons.getD k nilCon) (h4 _ (getD_mem (by omega))) ‹_› ‹_› ‹_›) (fun v309 H310 f311 h312 => ?_))))
    obtain ⟨_, rfl, h316⟩ := h312
    have h316' := h316
    obtain ⟨u313, u314, u315, rfl, h317, h318, h319⟩ := h316
    refine ln (qa (.cons_cons _ (.cons_cons _ nsl)) (ta 4 rfl (kl_bsK rfl (fun v320 H321 f322 r323 => ?_))))
    refine ln (qa (.cons_cons _ (.cons_cons _ nsl)) (ta 5 rfl (cm9 K295 H310 (fun c324 => ?_))))
    have o325 := OwnL.mono (K' := orHp K295 H310) o292 orL
    refine aL9 (m.cons.getD k nilCon) rfl rfl o325 r323 (RMono.mono (orC c324) ‹_›) (oc rfl (oc (Sl.oneCell ‹_›) (oc (Sl.oneCell ‹_›) (oc rfl (oc (Sl.oneCell ‹_›) oc_nil))))) (by (have h9 := congrArg List.length hi290; simp at h9; omega)) (by decide) (fun v326 H327 o328 f329 => ?_)
    have f330 := f329 B f293 (Nat.le_refl _)
    refine ln (qx rfl (kt_q 6 (.cons_cons _ (.cons_cons _ nsl)) rfl (by kernel_rfl) (fV rfl (ln (qq (ta 7 rfl (sB rfl rfl rfl (OwnL.oneCell ‹_›) (OwnL.cells ‹_›) ?_)))))))
    refine cg [bxS b307 [.int .i64 ((m.cons.getD k nilCon).kind), u301, u302, .int .i64 ((m.cons.getD k nilCon).bound), u303] 88, bxS b279 [v281, v326] 26, H327, bxS b5 [.slice none 0 0, .slice none 0 0] 26] rfl ?_
    refine ln (qx rfl (kt_end (by kernel_rfl) ?_))
    refine qc (cr (ic9 rfl rfl (by omega) ?_))
    refine mv rfl (ln (tk [bxS b279 [v281, v326] 26, H327, bxS b5 [.slice none 0 0, .slice none 0 0] 26] ?_))
    refine kq_roundK ((k + 1), (out ++ [(m.cons.getD k nilCon)]), v326, H327, (orHp K295 H310)) (by omega) (⟨by omega, (by rw [hi290, take_succ_getD nilCon (by omega)]), (fr_or f296 f311), o328, f330⟩) (pc 17 rfl pn) (pk [2, 3, 15, 16] rfl) rfl slr9
   ·refine ex9 (qc (cS (cr (kl_ldW rfl rfl (kl_stW (us := [v281, v294]) rfl rfl rfl rfl (oc (Sl.oneCell ‹_›) (oc (OwnL.oneCell ‹_›) oc_nil)) rfl ?_)))))
    refine cg [bxS b279 [v281, v294] 26, H291, bxS b5 [v281, v294] 26] rfl ?_
    refine ln (qc (rt (kq_frz H291 ?_)))
    refine kq_cmp H291 K295 (fun c331 => ?_)
    refine kq_cmp H282 (orHp H291 K295) (fun c332 => ?_)
    exact kq_retC rfl rfl rfl (orHp H282 (orHp H291 K295)) (fr_or f283 (fr_or f293 f296)) ⟨_, _, rfl, (Sl.mono ‹_› (fun b o h => orL b o h) (fun _ _ h => h)), (by have e9 : out = m.cons := (by rw [hi290, List.take_of_length_le (by omega)]); rw [← e9]; exact (Cons.mono' (OwnL.consK o292 c331) (fun b o h => orC c332 b o h)))⟩
 ·refine kl_alloc (cs := [.slice none 0 0, .slice none 0 0]) rfl (fun b333 hb334 => ?_)
  refine ln (qa nsl (kt_b 2 6 rfl rfl (by kernel_rfl) ?_ ?_))
  ·refine kl_call rfl rfl (copied_ok m.doms (by omega) ‹_›) (fun v335 H336 f337 o338 => ?_)
   have h339 := OwnL.ints o338
   refine ln (qa nsl (ta 6 rfl (kl_mkL0 (R := ConV) rfl rfl (by omega) (by omega) (by decide) (fun v340 H341 f342 o343 => ?_))))
   refine ln (qa nsl (ta 7 rfl (kl_bd rfl (cp (Sl.cells ‹_›) (cp (OwnL.cells ‹_›) cp_nil)) rfl ?_)))
   refine ln (qx rfl (ta 9 rfl (kl_stW (us := [v335, v340]) rfl rfl rfl rfl (oc (Sl.oneCell ‹_›) (oc (OwnL.oneCell ‹_›) oc_nil)) rfl ?_)))
   refine cg [H341, bxS b333 [v335, v340] 26, bxS b5 [.slice none 0 0, .slice none 0 0] 26] rfl ?_
   refine ln (qx rfl (kt_end (by kernel_rfl) ?_))
   refine qc (cS (cS (cr (fd9 rfl ‹_› (fun p344 a345 => ?_)))))
   refine ld rfl ‹_› (le9 rfl ‹_› (fun l346 => ?_))
   refine mv rfl (ln (qc (bl (kc_loopK (A := Nat × List Con × Value × Hp × Hp) (fun zz => (zz.1 ≤ m.cons.length) ∧ (zz.2.1 = m.cons.take zz.1) ∧ Fr B zz.2.2.2.2 ∧ OwnL 88 5 zz.2.2.2.1 zz.2.2.2.2 ConV zz.2.2.1 zz.2.1 ∧ Fr B zz.2.2.2.1) (fun zz => m.cons.length - zz.1) (fun zz => zz.2.2.2.2) (fun zz => [zz.2.2.2.1, bxS b333 [v335, zz.2.2.1] 26, bxS b5 [.slice none 0 0, .slice none 0 0] 26]) (fun zz => [(17, .int .i64 (zz.1 : Int))]) (0, ([]), v340, H341, noHp) (pk [2, 3, 15, 16] rfl) (pc 17 rfl pn) rfl ⟨Nat.zero_le _, rfl, (fr_no _), o343, f342⟩ ?_))))
   rintro ⟨k, out, v352, H349, K353⟩ hJ355
   obtain ⟨hk347, hi348, f354, o350, f351⟩ : (k ≤ m.cons.length) ∧ (out = m.cons.take k) ∧ Fr B K353 ∧ OwnL 88 5 H349 K353 ConV v352 out ∧ Fr B H349 := hJ355
   change KC _ _ (K353 :: _) [H349, bxS b333 [v335, v352] 26, bxS b5 [.slice none 0 0, .slice none 0 0] 26] _ ([(17, .int .i64 (k : Int))] ++ _)
   refine cS (cr (ls9 rfl rfl ?_))
   refine ln (qc (cS (ci9 rfl (fun c356 => ?_) (fun c356 => ?_))))
   ·refine sk (qc (cS (bl (cS (cr (kl_inC rfl rfl ‹_› (by omega) (fun p357 u359 u360 u361 h362 h363 h364 a358 => ?_)))))))
    refine kl_ldS rfl ‹_› rfl ?_
    refine kl_alloc (cs := [.int .i64 (0 : Int), .slice none 0 0, .slice none 0 0, .int .i64 (0 : Int), .slice none 0 0]) rfl (fun b365 hb366 => ?_)
    refine kl_stW (us := [.int .i64 ((m.cons.getD k nilCon).kind), u359, u360, .int .i64 ((m.cons.getD k nilCon).bound), u361]) rfl rfl rfl rfl (oc rfl (oc (Sl.oneCell ‹_›) (oc (Sl.oneCell ‹_›) (oc rfl (oc (Sl.oneCell ‹_›) oc_nil))))) rfl ?_
    refine cg [bxS b365 [.int .i64 ((m.cons.getD k nilCon).kind), u359, u360, .int .i64 ((m.cons.getD k nilCon).bound), u361] 88, H349, bxS b333 [v335, v352] 26, bxS b5 [.slice none 0 0, .slice none 0 0] 26] rfl ?_
    refine ln (qc (kc_tree (fun i => ([5, 7] : List Nat).contains i) [bxS b365 [.int .i64 ((m.cons.getD k nilCon).kind), u359, u360, .int .i64 ((m.cons.getD k nilCon).bound), u361] 88, bxS b333 [v335, v352] 26] (by kernel_rfl) ?_))
    refine kt_q 0 (.cons_cons _ (.cons _ (.cons_cons _ nsl))) rfl (by kernel_rfl) (fV rfl (ln (qq (kt_q 1 (.cons_cons _ (.cons _ (.cons_cons _ nsl))) rfl (by kernel_rfl) (ld rfl (at_box (T := 26) (cs := [v335, v352]) (off := 1) (fz := (0, 0))) (ln (qq (kt_q 2 (.cons_cons _ (.cons _ (.cons_cons _ nsl))) rfl (by kernel_rfl) ?_))))))))
    refine kl_ldS rfl (at_box (T := 88) (cs := [.int .i64 ((m.cons.getD k nilCon).kind), u359, u360, .int .i64 ((m.cons.getD k nilCon).bound), u361]) (off := 0) (fz := (0, 0))) rfl ?_
    refine ln (qq (ta 3 rfl (kl_call rfl rfl (copyConI_ok (m.cons.getD k nilCon) (h4 _ (getD_mem (by omega))) ‹_› ‹_› ‹_›) (fun v367 H368 f369 h370 => ?_))))
    obtain ⟨_, rfl, h374⟩ := h370
    have h374' := h374
    obtain ⟨u371, u372, u373, rfl, h375, h376, h377⟩ := h374
    refine ln (qa (.cons_cons _ (.cons _ (.cons_cons _ nsl))) (ta 4 rfl (kl_bsK rfl (fun v378 H379 f380 r381 => ?_))))
    refine ln (qa (.cons_cons _ (.cons _ (.cons_cons _ nsl))) (ta 5 rfl (cm9 K353 H368 (fun c382 => ?_))))
    have o383 := OwnL.mono (K' := orHp K353 H368) o350 orL
    refine aL9 (m.cons.getD k nilCon) rfl rfl o383 r381 (RMono.mono (orC c382) ‹_›) (oc rfl (oc (Sl.oneCell ‹_›) (oc (Sl.oneCell ‹_›) (oc rfl (oc (Sl.oneCell ‹_›) oc_nil))))) (by (have h9 := congrArg List.length hi348; simp at h9; omega)) (by decide) (fun v384 H385 o386 f387 => ?_)
    have f388 := f387 B f351 (Nat.le_refl _)
    refine ln (qx rfl (kt_q 6 (.cons_cons _ (.cons _ (.cons_cons _ nsl))) rfl (by kernel_rfl) (fV rfl (ln (qq (ta 7 rfl (sB rfl rfl rfl (OwnL.oneCell ‹_›) (OwnL.cells ‹_›) ?_)))))))
    refine cg [bxS b365 [.int .i64 ((m.cons.getD k nilCon).kind), u359, u360, .int .i64 ((m.cons.getD k nilCon).bound), u361] 88, H385, bxS b333 [v335, v384] 26, bxS b5 [.slice none 0 0, .slice none 0 0] 26] rfl ?_
    refine ln (qx rfl (kt_end (by kernel_rfl) ?_))
    refine qc (cr (ic9 rfl rfl (by omega) ?_))
    refine mv rfl (ln (tk [H385, bxS b333 [v335, v384] 26, bxS b5 [.slice none 0 0, .slice none 0 0] 26] ?_))
    refine kq_roundK ((k + 1), (out ++ [(m.cons.getD k nilCon)]), v384, H385, (orHp K353 H368)) (by omega) (⟨by omega, (by rw [hi348, take_succ_getD nilCon (by omega)]), (fr_or f354 f369), o386, f388⟩) (pc 17 rfl pn) (pk [2, 3, 15, 16] rfl) rfl slr9
   ·refine ex9 (qc (cS (cr (kl_ldW rfl rfl (kl_stW (us := [v335, v352]) rfl rfl rfl rfl (oc (Sl.oneCell ‹_›) (oc (OwnL.oneCell ‹_›) oc_nil)) rfl ?_)))))
    refine cg [H349, bxS b333 [v335, v352] 26, bxS b5 [v335, v352] 26] rfl ?_
    refine ln (qc (rt (kq_frz H349 ?_)))
    refine kq_cmp H349 K353 (fun c389 => ?_)
    refine kq_cmp H336 (orHp H349 K353) (fun c390 => ?_)
    exact kq_retC rfl rfl rfl (orHp H336 (orHp H349 K353)) (fr_or f337 (fr_or f351 f354)) ⟨_, _, rfl, (Sl.mono ‹_› (fun b o h => orL b o h) (fun _ _ h => h)), (by have e9 : out = m.cons := (by rw [hi348, List.take_of_length_le (by omega)]); rw [← e9]; exact (Cons.mono' (OwnL.consK o350 c389) (fun b o h => orC c390 b o h)))⟩
  ·refine kl_mkL0 (R := ConV) rfl rfl (by omega) (by omega) (by decide) (fun v391 H392 f393 o394 => ?_)
   refine ln (qa nsl (ta 2 rfl (kl_call rfl rfl (copied_ok m.doms (by omega) ‹_›) (fun v395 H396 f397 o398 => ?_))))
   have h399 := OwnL.ints o398
   refine ln (qa nsl (ta 7 rfl (kl_bd rfl (cp (Sl.cells ‹_›) (cp (OwnL.cells ‹_›) cp_nil)) rfl ?_)))
   refine ln (qx rfl (ta 9 rfl (kl_stW (us := [v395, v391]) rfl rfl rfl rfl (oc (Sl.oneCell ‹_›) (oc (OwnL.oneCell ‹_›) oc_nil)) rfl ?_)))
   refine cg [H392, bxS b333 [v395, v391] 26, bxS b5 [.slice none 0 0, .slice none 0 0] 26] rfl ?_
   refine ln (qx rfl (kt_end (by kernel_rfl) ?_))
   refine qc (cS (cS (cr (fd9 rfl ‹_› (fun p400 a401 => ?_)))))
   refine ld rfl ‹_› (le9 rfl ‹_› (fun l402 => ?_))
   refine mv rfl (ln (qc (bl (kc_loopK (A := Nat × List Con × Value × Hp × Hp) (fun zz => (zz.1 ≤ m.cons.length) ∧ (zz.2.1 = m.cons.take zz.1) ∧ Fr B zz.2.2.2.2 ∧ OwnL 88 5 zz.2.2.2.1 zz.2.2.2.2 ConV zz.2.2.1 zz.2.1 ∧ Fr B zz.2.2.2.1) (fun zz => m.cons.length - zz.1) (fun zz => zz.2.2.2.2) (fun zz => [zz.2.2.2.1, bxS b333 [v395, zz.2.2.1] 26, bxS b5 [.slice none 0 0, .slice none 0 0] 26]) (fun zz => [(17, .int .i64 (zz.1 : Int))]) (0, ([]), v391, H392, noHp) (pk [2, 3, 15, 16] rfl) (pc 17 rfl pn) rfl ⟨Nat.zero_le _, rfl, (fr_no _), o394, f393⟩ ?_))))
   rintro ⟨k, out, v408, H405, K409⟩ hJ411
   obtain ⟨hk403, hi404, f410, o406, f407⟩ : (k ≤ m.cons.length) ∧ (out = m.cons.take k) ∧ Fr B K409 ∧ OwnL 88 5 H405 K409 ConV v408 out ∧ Fr B H405 := hJ411
   change KC _ _ (K409 :: _) [H405, bxS b333 [v395, v408] 26, bxS b5 [.slice none 0 0, .slice none 0 0] 26] _ ([(17, .int .i64 (k : Int))] ++ _)
   refine cS (cr (ls9 rfl rfl ?_))
   refine ln (qc (cS (ci9 rfl (fun c412 => ?_) (fun c412 => ?_))))
   ·refine sk (qc (cS (bl (cS (cr (kl_inC rfl rfl ‹_› (by omega) (fun p413 u415 u416 u417 h418 h419 h420 a414 => ?_)))))))
    refine kl_ldS rfl ‹_› rfl ?_
    refine kl_alloc (cs := [.int .i64 (0 : Int), .slice none 0 0, .slice none 0 0, .int .i64 (0 : Int), .slice none 0 0]) rfl (fun b421 hb422 => ?_)
    refine kl_stW (us := [.int .i64 ((m.cons.getD k nilCon).kind), u415, u416, .int .i64 ((m.cons.getD k nilCon).bound), u417]) rfl rfl rfl rfl (oc rfl (oc (Sl.oneCell ‹_›) (oc (Sl.oneCell ‹_›) (oc rfl (oc (Sl.oneCell ‹_›) oc_nil))))) rfl ?_
    refine cg [bxS b421 [.int .i64 ((m.cons.getD k nilCon).kind), u415, u416, .int .i64 ((m.cons.getD k nilCon).bound), u417] 88, H405, bxS b333 [v395, v408] 26, bxS b5 [.slice none 0 0, .slice none 0 0] 26] rfl ?_
    refine ln (qc (kc_tree (fun i => ([5, 7] : List Nat).contains i) [bxS b421 [.int .i64 ((m.cons.getD k nilCon).kind), u415, u416, .int .i64 ((m.cons.getD k nilCon).bound), u417] 88, bxS b333 [v395, v408] 26] (by kernel_rfl) ?_))
    refine kt_q 0 (.cons_cons _ (.cons _ (.cons_cons _ nsl))) rfl (by kernel_rfl) (fV rfl (ln (qq (kt_q 1 (.cons_cons _ (.cons _ (.cons_cons _ nsl))) rfl (by kernel_rfl) (ld rfl (at_box (T := 26) (cs := [v395, v408]) (off := 1) (fz := (0, 0))) (ln (qq (kt_q 2 (.cons_cons _ (.cons _ (.cons_cons _ nsl))) rfl (by kernel_rfl) ?_))))))))
    refine kl_ldS rfl (at_box (T := 88) (cs := [.int .i64 ((m.cons.getD k nilCon).kind), u415, u416, .int .i64 ((m.cons.getD k nilCon).bound), u417]) (off := 0) (fz := (0, 0))) rfl ?_
    refine ln (qq (ta 3 rfl (kl_call rfl rfl (copyConI_ok (m.cons.getD k nilCon) (h4 _ (getD_mem (by omega))) ‹_› ‹_› ‹_›) (fun v423 H424 f425 h426 => ?_))))
    obtain ⟨_, rfl, h430⟩ := h426
    have h430' := h430
    obtain ⟨u427, u428, u429, rfl, h431, h432, h433⟩ := h430
    refine ln (qa (.cons_cons _ (.cons _ (.cons_cons _ nsl))) (ta 4 rfl (kl_bsK rfl (fun v434 H435 f436 r437 => ?_))))
    refine ln (qa (.cons_cons _ (.cons _ (.cons_cons _ nsl))) (ta 5 rfl (cm9 K409 H424 (fun c438 => ?_))))
    have o439 := OwnL.mono (K' := orHp K409 H424) o406 orL
    refine aL9 (m.cons.getD k nilCon) rfl rfl o439 r437 (RMono.mono (orC c438) ‹_›) (oc rfl (oc (Sl.oneCell ‹_›) (oc (Sl.oneCell ‹_›) (oc rfl (oc (Sl.oneCell ‹_›) oc_nil))))) (by (have h9 := congrArg List.length hi404; simp at h9; omega)) (by decide) (fun v440 H441 o442 f443 => ?_)
    have f444 := f443 B f407 (Nat.le_refl _)
    refine ln (qx rfl (kt_q 6 (.cons_cons _ (.cons _ (.cons_cons _ nsl))) rfl (by kernel_rfl) (fV rfl (ln (qq (ta 7 rfl (sB rfl rfl rfl (OwnL.oneCell ‹_›) (OwnL.cells ‹_›) ?_)))))))
    refine cg [bxS b421 [.int .i64 ((m.cons.getD k nilCon).kind), u415, u416, .int .i64 ((m.cons.getD k nilCon).bound), u417] 88, H441, bxS b333 [v395, v440] 26, bxS b5 [.slice none 0 0, .slice none 0 0] 26] rfl ?_
    refine ln (qx rfl (kt_end (by kernel_rfl) ?_))
    refine qc (cr (ic9 rfl rfl (by omega) ?_))
    refine mv rfl (ln (tk [H441, bxS b333 [v395, v440] 26, bxS b5 [.slice none 0 0, .slice none 0 0] 26] ?_))
    refine kq_roundK ((k + 1), (out ++ [(m.cons.getD k nilCon)]), v440, H441, (orHp K409 H424)) (by omega) (⟨by omega, (by rw [hi404, take_succ_getD nilCon (by omega)]), (fr_or f410 f425), o442, f444⟩) (pc 17 rfl pn) (pk [2, 3, 15, 16] rfl) rfl slr9
   ·refine ex9 (qc (cS (cr (kl_ldW rfl rfl (kl_stW (us := [v395, v408]) rfl rfl rfl rfl (oc (Sl.oneCell ‹_›) (oc (OwnL.oneCell ‹_›) oc_nil)) rfl ?_)))))
    refine cg [H405, bxS b333 [v395, v408] 26, bxS b5 [v395, v408] 26] rfl ?_
    refine ln (qc (rt (kq_frz H405 ?_)))
    refine kq_cmp H405 K409 (fun c445 => ?_)
    refine kq_cmp H396 (orHp H405 K409) (fun c446 => ?_)
    exact kq_retC rfl rfl rfl (orHp H396 (orHp H405 K409)) (fr_or f397 (fr_or f407 f410)) ⟨_, _, rfl, (Sl.mono ‹_› (fun b o h => orL b o h) (fun _ _ h => h)), (by have e9 : out = m.cons := (by rw [hi404, List.take_of_length_le (by omega)]); rw [← e9]; exact (Cons.mono' (OwnL.consK o406 c445) (fun b o h => orC c446 b o h)))⟩
end
section
abbrev tupSt (k : Nat) : Prop := ∀ {l : Nat} {J : Nat → (Nat → Prop) → World → Prop} {Jx : (Nat → Prop) → World → Prop} (hJ : ∀ n, JK (J n)) (hJx : JK Jx) {xs : List (List Int)} {H1 Hd Kr Hx : Hp} {b0 : Nat} {pd py pf vd vx : Value} (ds x : List Int) (n : Nat) (hd : ∀ d ∈ ds, (0 : Int) ≤ d ∧ d ≤ 63) (hl : ds.length ≤ 1048576) (hk : x.length + k = ds.length)
    (hxs : ∀ q, q < (tupL (ds.drop x.length)).length → xs.getD (n + q) [] = x ++ (tupL (ds.drop x.length)).getD q []) (hlen : n + (tupL (ds.drop x.length)).length ≤ xs.length) (hR : Rounds Tryz.prog l [H1, Hd] xs J Jx) (a1 : At H1 pd [vd]) (hdd : Ints Hd vd ds) (a2 : At Kr py [.func (.yield l) #[] #[]]) (a3 : At Kr pf [.func (.func 134) #[] #[.pointer (some ⟨b0, 0, none⟩), pd, py, pf]]) (ho : OwnL 3 1 Hx noHp IntV vx x),
    SpecJ Tryz.prog 134 [.pointer (some ⟨b0, 0, none⟩), pd, py, pf] Kr [H1, Hd] [bxS b0 [vx] 23, Hx] (J n) (fun vq L1 j => (vq = .bool true ∧ j = J (n + (tupL (ds.drop x.length)).length) ∧ ∃ (vx2 : Value) (Hx2 : Hp), L1 = [bxS b0 [vx2] 23, Hx2] ∧ OwnL 3 1 Hx2 noHp IntV vx2 x) ∨ (vq = .bool false ∧ j = Jx ∧ L1 = []))

theorem tup_next {ds x : List Int} {xs : List (List Int)} {n i : Nat} (hxs : ∀ q, q < (tupL (ds.drop x.length)).length → xs.getD (n + q) [] = x ++ (tupL (ds.drop x.length)).getD q []) (hk : x.length < ds.length) (hi : i < (valsI (ds.getD x.length 0)).length) {q : Nat} (hq : q < (tupL (ds.drop (x.length + 1))).length) :
    xs.getD (n + (tupL (ds.drop (x.length + 1))).length * i + q) [] = (x ++ [(valsI (ds.getD x.length 0)).getD i 0]) ++ (tupL (ds.drop (x ++ [(valsI (ds.getD x.length 0)).getD i 0]).length)).getD q [] := by
  have e : ds.drop x.length = ds.getD x.length 0 :: ds.drop (x.length + 1) := by
    rw [List.drop_eq_getElem_cons hk]; congr 1; simp [List.getD_eq_getElem?_getD, hk]
  have h := hxs ((tupL (ds.drop (x.length + 1))).length * i + q) (by
    rw [e, tup_len]
    have : (tupL (ds.drop (x.length + 1))).length * (i + 1) ≤ (tupL (ds.drop (x.length + 1))).length * (valsI (ds.getD x.length 0)).length := Nat.mul_le_mul_left _ hi
    rw [Nat.mul_succ] at this
    omega)
  rw [Nat.add_assoc, h, e, tup_at _ _ hi hq]
  simp
theorem tup_room {ds x : List Int} {n N : Nat} (h : n + (tupL (ds.drop x.length)).length ≤ N) (hk : x.length < ds.length) {k : Nat} (hi : k < (valsI (ds.getD x.length 0)).length) : n + (tupL (ds.drop (x.length + 1))).length * k + (tupL (ds.drop (x.length + 1))).length ≤ N := by
  have e : ds.drop x.length = ds.getD x.length 0 :: ds.drop (x.length + 1) := by
    rw [List.drop_eq_getElem_cons hk]; congr 1; simp [List.getD_eq_getElem?_getD, hk]
  rw [e, tup_len] at h
  have : (tupL (ds.drop (x.length + 1))).length * (k + 1) ≤ (tupL (ds.drop (x.length + 1))).length * (valsI (ds.getD x.length 0)).length := Nat.mul_le_mul_left _ hi
  rw [Nat.mul_succ] at this
  omega
theorem tup_all {ds x : List Int} (hk : x.length < ds.length) {k : Nat} (hi : k = (valsI (ds.getD x.length 0)).length) : (tupL (ds.drop x.length)).length = (tupL (ds.drop (x.length + 1))).length * k := by
  have e : ds.drop x.length = ds.getD x.length 0 :: ds.drop (x.length + 1) := by
    rw [List.drop_eq_getElem_cons hk]; congr 1; simp [List.getD_eq_getElem?_getD, hk]
  rw [e, tup_len, hi]
theorem tup_step (k : Nat) (ih : ∀ j, j < k → tupSt j) : tupSt k := by
  intro l J Jx hJ hJx xs H1 Hd Kr Hx b0 pd py pf vd vx ds x n hd hl hk hxs hlen hR a1 hdd a2 a3 ho
  have hol := OwnL.ints ho
  refine specJ_of (hJ n) Tryz.func134 rfl rfl rfl (fun B => ?_)
  refine cS ?_
  refine cr ?_
  refine sg rfl ?_
  refine ln ?_
  refine qc ?_
  refine cS ?_
  refine cS ?_
  refine cr ?_
  refine lB rfl rfl ?_
  refine lL rfl ho (fun l1 => ?_)
  refine ld rfl ‹_› ?_
  refine le9 rfl ‹_› (fun l2 => ?_)
  refine eq9 rfl rfl ?_
  refine ln ?_
  refine qc ?_
  refine ci9 rfl (fun c3 => ?_) (fun c3 => ?_)
  · skip
    refine cS ?_
    refine kc_regI ?_
    refine ki_ld rfl a2 ?_
    refine ki_ldB rfl rfl ?_
    have e0 : ds.drop x.length = [] := List.drop_eq_nil_of_le (by omega)
    have e1 : (tupL (ds.drop x.length)).length = 1 := by rw [e0]; rfl
    have e2 := hxs 0 (by omega)
    have e3 : xs.getD n [] = x := by rw [e0] at e2; simpa [tupL] using e2
    refine ki_yield (Hx := Hx) hJx hR rfl rfl (by omega) (by rw [e3]; exact OwnL.ints ho) ?_ ?_
    · skip
      refine ki_as rfl (ki_nil ?_)
      refine qc ?_
      refine rt ?_
      exact kq_retJ1 rfl rfl [bxS b0 [vx] 23, Hx] (.inl ⟨rfl, by rw [e1], vx, Hx, rfl, ho⟩)
    · skip
      refine ki_as rfl (ki_nil ?_)
      refine qc ?_
      refine rt ?_
      exact kq_retJ1 rfl rfl [] (.inr ⟨rfl, rfl, rfl⟩)
  · skip
    refine sk ?_
    refine qc ?_
    refine cS ?_
    refine cS ?_
    refine cr ?_
    refine ld rfl ‹_› ?_
    refine lB rfl rfl ?_
    refine lL rfl ho (fun l4 => ?_)
    refine kl_inI rfl rfl ‹_› (by omega) (fun p5 a6 => ?_)
    refine ld rfl ‹_› ?_
    refine kl_call rfl rfl (valuesOf_ok (ds.getD x.length 0) (hd _ (getD_mem (by omega)))) (fun v7 H8 f9 h10 => ?_)
    refine le9 rfl ‹_› (fun l11 => ?_)
    refine mv rfl ?_
    refine ln ?_
    refine qc ?_
    refine bl ?_
    have hk1 : x.length < ds.length := by omega
    refine kc_take [bxS b0 [vx] 23, Hx] ?_
    refine kc_loopX (A := Nat × Value × Hp) (fun zz => sj Kr (J (n + (tupL (ds.drop (x.length + 1))).length * zz.1)) (hJ _)) (fun zz => zz.1 ≤ (valsI (ds.getD x.length 0)).length ∧ OwnL 3 1 zz.2.2 noHp IntV zz.2.1 x) (fun zz => (valsI (ds.getD x.length 0)).length - zz.1) (fun zz => [bxS b0 [zz.2.1] 23, zz.2.2]) (fun zz => [(22, .int .i64 (zz.1 : Int))]) (0, vx, Hx) (pk [0, 3, 20, 21] rfl) (pc 22 rfl pn) rfl ⟨Nat.zero_le _, ho⟩ ?_
    rintro ⟨i, vi, Hi⟩ ⟨hi1, hi2⟩
    have hi1 : i ≤ (valsI (ds.getD x.length 0)).length := hi1
    have hi2 : OwnL 3 1 Hi noHp IntV vi x := hi2
    change KC (⟨_, _, _, sj Kr (J (n + (tupL (ds.drop (x.length + 1))).length * i)) (hJ _), _, _, _⟩ : Cx) _ _ [bxS b0 [vi] 23, Hi] _ ([(22, .int .i64 (i : Int))] ++ _)
    refine cS ?_
    refine cr ?_
    refine ls9 rfl rfl ?_
    refine ln ?_
    refine qc ?_
    refine cS ?_
    refine ci9 rfl (fun c12 => ?_) (fun c12 => ?_)
    · skip
      refine sk ?_
      refine qc ?_
      refine cS ?_
      refine bl ?_
      refine cS ?_
      refine cr ?_
      refine kl_inI rfl rfl ‹_› (by omega) (fun p13 a14 => ?_)
      refine ld rfl ‹_› ?_
      refine sg rfl ?_
      refine ln ?_
      refine qc ?_
      refine cS ?_
      refine cr ?_
      refine lB rfl rfl ?_
      refine mv rfl ?_
      refine bs9 rfl rfl rfl (by decide) (ca rfl ca_nil) (fun v15 H16 f17 r18 s19 => ?_)
      have h20 : Ints H16 v15 [((valsI (ds.getD x.length 0)).getD i 0)] := litInts (xs := [((valsI (ds.getD x.length 0)).getD i 0)]) (by simpa using s19)
      refine aL9 ((valsI (ds.getD x.length 0)).getD i 0) rfl rfl hi2 ‹_› rfl (oc rfl oc_nil) (by simp; omega) (by decide) (fun v21 H22 o23 f24 => ?_)
      refine sB rfl rfl rfl (OwnL.oneCell ‹_›) (OwnL.cells ‹_›) ?_
      refine cg [bxS b0 [v21] 23, H22] rfl ?_
      refine ln ?_
      refine qc ?_
      refine cS ?_
      refine cS ?_
      refine cr ?_
      refine ld rfl ‹_› ?_
      refine kl_callJ [H8] rfl rfl (fun Kr2 hk hks => ih (k - 1) (by omega) hJ hJx ds (x ++ [((valsI (ds.getD x.length 0)).getD i 0)]) (n + (tupL (ds.drop (x.length + 1))).length * i) hd hl (by simp; omega) (by intro q hq; exact tup_next hxs hk1 (by omega) (by simpa using hq)) (by have := tup_room hlen hk1 (k := i) (by omega); simpa using this) hR a1 hdd (At.mono a2 hk) (At.mono a3 hk) o23) (fr1 f9) (fun v26 L27 j28 h29 h30 => ?_)
      rcases h30 with ⟨rfl, rfl, v32, H33, rfl, o31⟩ | ⟨rfl, rfl, rfl⟩
      · skip
        refine nm ?_
        refine nt9 rfl ?_
        refine ln ?_
        refine kq_normI ?_
        refine qc ?_
        refine cd9 rfl (fun hc => absurd hc (by decide)) (fun hc => ?_)
        refine sk ?_
        refine qc ?_
        refine cr ?_
        refine lB rfl rfl ?_
        refine lB rfl rfl ?_
        refine lL rfl o31 (fun l34 => ?_)
        refine sb9 rfl rfl (by omega) ?_
        have e37 : (((x ++ [((valsI (ds.getD x.length 0)).getD i 0)]).length : Int) - (1 : Int)) = (((Int.toNat (((x ++ [((valsI (ds.getD x.length 0)).getD i 0)]).length : Int) - (1 : Int))) : Nat) : Int) := by first | omega | (simp only [List.length_append, List.length_cons, List.length_nil]; omega)
        refine kl_slTakeL (i := (Int.toNat (((x ++ [((valsI (ds.getD x.length 0)).getD i 0)]).length : Int) - (1 : Int)))) rfl (by rw [← e37]; rfl) o31 (by first | omega | (simp; omega)) (fun u35 o36 => ?_)
        refine sB rfl rfl rfl (OwnL.oneCell ‹_›) (OwnL.cells ‹_›) ?_
        refine cg [bxS b0 [u35] 23, H33] rfl ?_
        refine ln ?_
        refine qc ?_
        refine cr ?_
        refine ic9 rfl rfl (by omega) ?_
        refine mv rfl ?_
        refine ln ?_
        refine kq_roundX (i + 1, u35, H33) (sj_eq (by rw [Nat.mul_succ]; simp; omega)) (by dsimp only; omega) ⟨by dsimp only; omega, OwnL.cast (by simp) o36⟩ (pc 22 rfl pn) (pk [0, 3, 20, 21] rfl) rfl
      · skip
        refine nm ?_
        refine nt9 rfl ?_
        refine ln ?_
        refine kq_normI ?_
        refine qc ?_
        refine cd9 rfl (fun hc => ?_) (fun hc => absurd hc (by decide))
        refine cS ?_
        refine cr ?_
        refine sg rfl ?_
        refine ln ?_
        refine qc ?_
        refine rt ?_
        exact kq_retJ1 rfl rfl [] (.inr ⟨rfl, rfl, rfl⟩)
    · skip
      refine ex9 ?_
      refine qc ?_
      refine cS ?_
      refine cr ?_
      refine sg rfl ?_
      refine ln ?_
      refine qc ?_
      refine rt ?_
      exact kq_retJ1 rfl rfl [bxS b0 [vi] 23, Hi] (.inl ⟨rfl, congrArg J (by have := tup_all (x := x) hk1 (k := i) (by omega); rw [this]), vi, Hi, rfl, hi2⟩)
theorem tup_ok (k : Nat) : tupSt k := by
  induction k using Nat.strongRecOn with
  | _ k ih => exact tup_step k ih
theorem tup118_ok {l : Nat} {J : Nat → (Nat → Prop) → World → Prop} {Jx : (Nat → Prop) → World → Prop} (hJ : ∀ n, JK (J n)) (hJx : JK Jx) {H1 Hd : Hp} {pd vd : Value} (ds : List Int) (hd : ∀ d ∈ ds, (0 : Int) ≤ d ∧ d ≤ 63) (hl : ds.length ≤ 1048576) (hR : Rounds Tryz.prog l [H1, Hd] (tupL ds) J Jx) (a1 : At H1 pd [vd]) (hdd : Ints Hd vd ds) :
    SpecJ Tryz.prog 133 [.func (.yield l) #[] #[], pd] noHp [H1, Hd] [] (J 0) (fun vq L1 j => j = J (tupL ds).length ∨ j = Jx) := by
  refine specJ_of (hJ 0) Tryz.func133 rfl rfl rfl (fun B => ?_)
  refine cS ?_
  refine cr ?_
  refine kl_box rfl rfl (fun p1 H2 f3 a4 => ?_)
  refine ln ?_
  refine qc ?_
  refine cS ?_
  refine cr ?_
  refine ld rfl ‹_› ?_
  refine le9 rfl ‹_› (fun l5 => ?_)
  refine kl_mkL0 (R := IntV) rfl rfl (by omega) (by omega) (by decide) (fun v6 H7 f8 o9 => ?_)
  refine kl_alloc (cs := [.slice none 0 0]) rfl (fun b10 hb11 => ?_)
  refine sB rfl rfl rfl (OwnL.oneCell ‹_›) (OwnL.cells ‹_›) ?_
  refine cg [bxS b10 [v6] 23, H7] rfl ?_
  refine ln ?_
  refine qc ?_
  refine cS ?_
  refine cr ?_
  refine kl_alloc (cs := [.nilFunc]) rfl (fun b12 hb13 => ?_)
  refine ln ?_
  refine qc ?_
  refine cS ?_
  refine cr ?_
  refine kl_mkf rfl ?_
  refine sB rfl rfl rfl rfl rfl ?_
  refine cg [bxS b12 [.func (.func 134) #[] #[.pointer (some ⟨b10, 0, none⟩), pd, p1, .pointer (some ⟨b12, 0, none⟩)]] 143, bxS b10 [v6] 23, H7] rfl ?_
  refine fZ (bxS b12 [.func (.func 134) #[] #[.pointer (some ⟨b10, 0, none⟩), pd, p1, .pointer (some ⟨b12, 0, none⟩)]] 143) ?_
  have a3 : At (bxS b12 [.func (.func 134) #[] #[.pointer (some ⟨b10, 0, none⟩), pd, p1, .pointer (some ⟨b12, 0, none⟩)]] 143) (.pointer (some ⟨b12, 0, none⟩)) [.func (.func 134) #[] #[.pointer (some ⟨b10, 0, none⟩), pd, p1, .pointer (some ⟨b12, 0, none⟩)]] := At.sing (cs := #[.func (.func 134) #[] #[.pointer (some ⟨b10, 0, none⟩), pd, p1, .pointer (some ⟨b12, 0, none⟩)]])
  refine ln ?_
  refine qc ?_
  refine cr ?_
  refine ld rfl ‹_› ?_
  refine kl_callJ [H2, (bxS b12 [.func (.func 134) #[] #[.pointer (some ⟨b10, 0, none⟩), pd, p1, .pointer (some ⟨b12, 0, none⟩)]] 143)] rfl rfl (fun Kr2 hk hks => tup_ok ds.length hJ hJx ds [] 0 hd hl (by simp) (by intro q hq; simp) (by simp) hR a1 hdd (At.mono a4 (hks _ (.head _))) (At.mono a3 (hks _ (.tail _ (.head _)))) o9) (frc f3 (fr1 (fr_sing ‹_›))) (fun v14 L15 j16 h17 h18 => ?_)
  rcases h18 with ⟨rfl, rfl, v20, H21, rfl, o19⟩ | ⟨rfl, rfl, rfl⟩
  · skip
    refine nm ?_
    refine ln ?_
    refine kq_normI ?_
    exact kq_retJ0 rfl [] (.inl (by simp))
  · skip
    refine nm ?_
    refine ln ?_
    refine kq_normI ?_
    exact kq_retJ0 rfl [] (.inr rfl)
theorem tuples_it {p vd : Value} {H1 Hd : Hp} (ds : List Int) (hd : ∀ d ∈ ds, (0 : Int) ≤ d ∧ d ≤ 63) (hl : ds.length ≤ 1048576) (a1 : At H1 p [vd]) (hdd : Ints Hd vd ds) : ItSpec Tryz.prog 133 [p] [H1, Hd] (tupL ds) := fun l J Jx hJ hJx hR W hA hW =>
  (tup118_ok (fun n => ⟨hJ n⟩) ⟨hJx⟩ ds hd hl hR a1 hdd W (fun _ h => by cases h) List.Pairwise.nil (agree_no W) hA (hJ 0 hW (Nat.le_refl _) (fun _ _ _ => rfl) (Io.refl _) (fun b hb => by
    rcases hb with hb | ⟨_, h, _⟩
    · exact absurd rfl hb
    · cases h))).mono fun e W' he => by
    cases e with
    | returned v =>
      obtain ⟨_, _, _, _, L1, j, _, _, hj, hw, hp⟩ := he
      have hw' := hj.ok hw (Nat.le_refl _) (fun _ _ _ => rfl) (Io.refl _) (D' := fun _ => False) (fun _ h => h.elim)
      refine ⟨v, rfl, ?_⟩
      rcases hp with rfl | rfl
      · exact .inl hw'
      · exact .inr hw'
    | panicked c => exact he.elim
    | outgrown => exact he.elim
end
section
theorem tuples_ok {Hds : Hp} {vds : Value} (ds : List Int) (hds : Ints Hds vds ds) : Spec Tryz.prog 91 [vds] [Hds] (fun Hq vq => ∃ p : Value, vq = .func (.func 133) #[] #[p] ∧ At Hq p [vds]) := by
 refine spec_of Tryz.func91 rfl rfl rfl (fun B => ?_)
 refine cS (cr (kl_box rfl (Sl.cells ‹_›) (fun p1 H2 f3 a4 => ?_)))
 refine sg rfl (ln (qc (cS (cr (kl_mkf rfl ?_)))))
 refine sg rfl (ln (qc (rt ?_)))
 exact kq_ret rfl rfl H2 f3 ⟨_, rfl, a4⟩
theorem filter_ok {Hcv : Hp} {vcv : Value} {Hca : Hp} {vca : Value} {Hcr : Hp} {vcr : Value} {Hds : Hp} {vds : Value} (c : Con) (ds : List Int) (hC : ConOk c ds.length) (hd : DomV ds) (hcv : Ints Hcv vcv c.vars) (hca : Ints Hca vca c.args) (hcr : Rows Hcr vcr c.rows) (hds : Ints Hds vds ds) : Spec Tryz.prog 174 [.agg #[.int .i64 c.kind, vcv, vca, .int .i64 c.bound, vcr], vds] [Hcv, Hca, Hcr, Hds] (fun Hq vq => Ints Hq vq (filtL c ds)) := by
 have h0 := hC.one
 refine spec_ofR Tryz.func174 rfl rfl rfl (fun B => ?_)
 refine cS (cr (kl_box rfl rfl (fun p1 H2 f3 a4 => ?_)))
 refine sg rfl (ln (qc (cS (cr (fd9 rfl ‹_› (fun p5 a6 => ?_))))))
 refine ld rfl ‹_› (le9 rfl ‹_› (fun l7 => ?_))
 refine kl_mkL (R := IntV) (0 : Int) rfl rfl (by omega) (by decide) (by exact rfl) (fun v8 H9 f10 o11 => ?_)
 refine kl_alloc (cs := [.slice none 0 0]) rfl (fun b12 hb13 => ?_)
 refine sB rfl rfl rfl (OwnL.oneCell ‹_›) (OwnL.cells ‹_›) ?_
 refine ln (qc (cS (cS (cr (kl_ldS rfl ‹_› rfl ?_)))))
 refine mv rfl (kl_call rfl rfl (word_ok c ds hC.vars (by have := hC.one; omega) ‹_› ‹_› ‹_› ‹_›) (fun v14 H15 f16 h17 => ?_))
 refine kl_call rfl rfl (tuples_ok (wordL c.vars ds) ‹_›) (fun v18 H19 f20 h21 => ?_)
 obtain ⟨p22, rfl, a23⟩ := h21
 refine ln (qc (bl (kc_range (A := List Int × Value × Hp) (fun zz => [bxS b12 [zz.2.1] 23, zz.2.2]) (fun n zz => (zz.1 = suppV c ((tupL (wordL c.vars ds)).take n)) ∧ OwnL 3 1 zz.2.2 noHp IntV zz.2.1 zz.1 ∧ Fr B zz.2.2) (fun _ _ => False) ((List.replicate c.vars.length (0 : Int)), v8, H9) rfl (tuples_it (wordL c.vars ds) (word_dom hC hd) (by have := hC.one; simp [wordL]; omega) a23 ‹_›) (pk [1, 2, 4, 5] rfl) rfl rfl ⟨(suppV_0 c).symm, o11, f10⟩ ?_ ?_ (fun _ _ _ _ h => h.elim))))
 ·rintro l29 m30 D31 r32 H33 v34 n ⟨left, v25, H26⟩ hk35 hJ36 h37
  obtain ⟨hi24, o27, f28⟩ : (left = suppV c ((tupL (wordL c.vars ds)).take n)) ∧ OwnL 3 1 H26 noHp IntV v25 left ∧ Fr B H26 := hJ36
  obtain ⟨t, ht⟩ : ∃ t, (tupL (wordL c.vars ds)).getD n [] = t := ⟨_, rfl⟩
  rw [ht] at h37
  have hS : SatOk c t := (tup_sat hC rfl (by rw [← ht]; exact getD_mem hk35))
  have hT := take_succ_getD [] hk35
  rw [ht] at hT
  change KC _ _ _ (rdy l29 r32 :: [bxS b12 [v25] 23, H26]) _ _
  refine cr (sg rfl (ln (kq_begin (r := r32) ?_)))
  refine bl (cS (cr (kl_ldS rfl ‹_› rfl ?_)))
  refine mv rfl (cP rfl rfl (satisfied_ok c t hS ‹_› ‹_› ‹_› ‹_›) ?_)
  refine ln (qc (cd9 rfl (fun c39 => ?_) (fun c39 => ?_)))
  ·have c39r := c39
   try simp only [smpE] at c39
   refine cS (cr (mv rfl (le9 rfl ‹_› (fun l40 => ?_))))
   refine mv rfl (ln (qc (bl (kc_loopL (A := Nat × List Int × Value × Hp) (fun zz => (zz.1 ≤ t.length) ∧ (zz.2.1 = suppM c ((tupL (wordL c.vars ds)).take n) t zz.1) ∧ OwnL 3 1 zz.2.2.2 noHp IntV zz.2.2.1 zz.2.1 ∧ Fr B zz.2.2.2) (fun zz => t.length - zz.1) (fun zz => [bsy l29 r32, bxS b12 [zz.2.2.1] 23, zz.2.2.2]) (fun zz => [(26, .int .i64 (zz.1 : Int))]) (0, left, v25, H26) (pk [1, 2, 4, 5, 6, 20, 21, 22, 23, 24, 25] rfl) (pc 26 rfl pn) rfl ⟨Nat.zero_le _, (by rw [hi24, suppM_0]), o27, f28⟩ ?_))))
   rintro ⟨k, left1, v46, H43⟩ hJ47
   obtain ⟨hk41, hi42, o44, f45⟩ : (k ≤ t.length) ∧ (left1 = suppM c ((tupL (wordL c.vars ds)).take n) t k) ∧ OwnL 3 1 H43 noHp IntV v46 left1 ∧ Fr B H43 := hJ47
   change KC _ _ (_) [bsy l29 r32, bxS b12 [v46] 23, H43] _ ([(26, .int .i64 (k : Int))] ++ _)
   have hln : left1.length = c.vars.length := (by rw [hi42]; exact suppM_len c _ t k)
   refine cS (cr (ls9 rfl rfl ?_))
   refine ln (qc (cS (ci9 rfl (fun c48 => ?_) (fun c48 => ?_))))
   ·have hv1 := hS.val.at (k := k) (by omega)
    have hl1 := hS.len
    refine sk (qc (cS (bl (cS (cr (mv rfl (kl_inI rfl rfl ‹_› (by omega) (fun p49 a50 => ?_))))))))
    refine ld rfl ‹_› (sg rfl (sg rfl (ln (qc (kc_draw 8 [true, true, true, true, true, true, true, true, false] (by kernel_rfl) (by kernel_rfl) ?_)))))
    refine lB rfl rfl (mv rfl (kl_ixLn rfl rfl ‹_› (by omega) (fun p51 q52 => ?_)))
    refine kl_ldLI rfl ‹_› ‹_› (by omega) ?_
    refine mv rfl (kl_shl rfl rfl (by omega) ?_)
    refine kl_or rfl rfl ?_
    refine kl_ixLn rfl rfl ‹_› (by omega) (fun p53 q54 => ?_)
    refine kl_stL (ior (left1.getD k 0) (ishl (1 : Int) (t.getD k 0))) rfl rfl ‹_› o44 (by omega) rfl rfl rfl (fun H55 o56 f57 => ?_)
    have f58 := f57 _ f45
    refine ln (qc (cr (ic9 rfl rfl (by omega) ?_)))
    refine mv rfl (ln (rL ((k + 1), (left1.set k (ior (left1.getD k 0) (ishl (1 : Int) (t.getD k 0)))), v46, H55) (by omega) (⟨by omega, (by rw [hi42]; exact suppM_stepO ‹_› hS (by omega)), o56, f58⟩) (pc 26 rfl pn) (pk [1, 2, 4, 5, 6, 20, 21, 22, 23, 24, 25] rfl) rfl slr9))
   ·refine ex9 (tk [bsy l29 r32, bxS b12 [v46] 23, H43] ?_)
    exact kq_rend (invx := fun _ _ => False) (left1, v46, H43) ⟨(by rw [hT]; first | exact supp_stepT hi42 hS (by omega) | (rw [suppV_no ‹_›]; exact hi24)), o44, f45⟩ rfl inferInstance slr9
  ·have c39r := c39
   try simp only [smpE] at c39
   refine sk (tk [bsy l29 r32, bxS b12 [v25] 23, H26] ?_)
   exact kq_rend (invx := fun _ _ => False) (left, v25, H26) ⟨(by rw [hT]; first | exact supp_stepT hi42 hS (by omega) | (rw [suppV_no ‹_›]; exact hi24)), o27, f28⟩ rfl inferInstance slr9
 ·rintro D59 ⟨left, v25, H26⟩ hD60 hJ61
  obtain ⟨hi24, o27, f28⟩ : (left = suppV c ((tupL (wordL c.vars ds)).take ((tupL (wordL c.vars ds)).length))) ∧ OwnL 3 1 H26 noHp IntV v25 left ∧ Fr B H26 := hJ61
  change KQ _ _ ([bxS b12 [v25] 23, H26]) _ _
  have hll : left.length = c.vars.length := (by rw [hi24]; exact suppV_len c _)
  refine qc (cS (cr (mv rfl (kl_callL rfl rfl (copied_ok ds (by have := hC.one; omega) ‹_›) (fun v62 H63 f64 o65 => ?_)))))
  refine sg rfl (ln (qc (cS (cS (cr (fd9 rfl ‹_› (fun p66 a67 => ?_)))))))
  refine ld rfl ‹_› (le9 rfl ‹_› (fun l68 => ?_))
  refine mv rfl (ln (qc (bl (kc_loopL (A := Nat × List Int × Hp) (fun zz => (zz.1 ≤ c.vars.length) ∧ (zz.2.1 = filtTo c ds left zz.1) ∧ OwnL 3 1 zz.2.2 noHp IntV v62 zz.2.1 ∧ Fr B zz.2.2) (fun zz => c.vars.length - zz.1) (fun zz => [zz.2.2, bxS b12 [v25] 23, H26]) (fun zz => [(45, .int .i64 (zz.1 : Int))]) (0, ds, H63) (pk [4, 5, 9, 43, 44] rfl) (pc 45 rfl pn) rfl ⟨Nat.zero_le _, rfl, o65, f64⟩ ?_))))
  rintro ⟨k2, out, H71⟩ hJ74
  obtain ⟨hk69, hi70, o72, f73⟩ : (k2 ≤ c.vars.length) ∧ (out = filtTo c ds left k2) ∧ OwnL 3 1 H71 noHp IntV v62 out ∧ Fr B H71 := hJ74
  change KC _ _ (_) [H71, bxS b12 [v25] 23, H26] _ ([(45, .int .i64 (k2 : Int))] ++ _)
  have hln : out.length = ds.length := (by rw [hi70]; exact filtTo_len c ds left k2)
  refine cS (cr (ls9 rfl rfl ?_))
  refine ln (qc (cS (ci9 rfl (fun c75 => ?_) (fun c75 => ?_))))
  ·have hv2 := hC.at (k := k2) (by omega)
   refine sk (qc (cS (bl (cS (cr (mv rfl (kl_inI rfl rfl ‹_› (by omega) (fun p76 a77 => ?_))))))))
   refine ld rfl ‹_› (sg rfl (sg rfl (ln (qc (cr (mv rfl (mv rfl (lB rfl rfl (mv rfl ?_)))))))))
   refine kl_ixLn rfl rfl ‹_› (by omega) (fun p78 q79 => ?_)
   refine kl_ldLI rfl ‹_› ‹_› (by omega) ?_
   refine kl_ixL rfl rfl ‹_› (by omega) (by omega) (fun p80 q81 => ?_)
   refine kl_stL (left.getD k2 0) rfl rfl ‹_› o72 (by omega) rfl rfl rfl (fun H82 o83 f84 => ?_)
   have f85 := f84 _ f73
   refine ln (qc (cr (ic9 rfl rfl (by omega) ?_)))
   refine mv rfl (ln (rL ((k2 + 1), (out.set ((c.vars.getD k2 0).toNat) (left.getD k2 0)), H82) (by omega) (⟨by omega, (by rw [hi70, filtTo_succ]), o83, f85⟩) (pc 45 rfl pn) (pk [4, 5, 9, 43, 44] rfl) rfl slr9))
  ·refine ex9 (qc (cS (cr (mv rfl (sg rfl (ln (qc (rt ?_))))))))
   have e9 : out = filtL c ds := by rw [hi70, hi24, List.take_length, show k2 = c.vars.length from by omega]; rfl
   exact kq_retR (rss1 rfl (rs_tmp rfl)) H71 f73 (e9 ▸ OwnL.ints o72) (df1 hD60)
end
section
theorem filtered_ok {Hmd : Hp} {vmd : Value} {Hmc : Hp} {vmc : Value} {Hds : Hp} {vds : Value} (m : Mod) (ds : List Int) (hM : MOk m) (hd : DOk m.doms.length ds) (hmd : Ints Hmd vmd m.doms) (hmc : Cons Hmc vmc m.cons) (hds : Ints Hds vds ds) : Spec Tryz.prog 136 [.agg #[vmd, vmc], vds] [Hmd, Hmc, Hds] (fun Hq vq => Ints (orHp Hds Hq) vq (filtA m ds)) := by
 refine spec_of Tryz.func136 rfl rfl rfl (fun B => ?_)
 refine cS (cr (kl_box rfl rfl (fun p1 H2 f3 a4 => ?_)))
 refine sg rfl (ln (qc (cS (cS (cr (fd9 rfl ‹_› (fun p5 a6 => ?_)))))))
 refine ld rfl ‹_› (le9 rfl ‹_› (fun l7 => ?_))
 refine mv rfl (ln (qc (bl (kc_loopK (A := Nat × List Int × Value × Hp) (fun zz => (zz.1 ≤ m.cons.length) ∧ (zz.2.1 = filtC (m.cons.take zz.1) ds) ∧ Fr B zz.2.2.2 ∧ Ints (orHp Hds zz.2.2.2) zz.2.2.1 zz.2.1) (fun zz => m.cons.length - zz.1) (fun zz => zz.2.2.2) (fun zz => []) (fun zz => [(10, .int .i64 (zz.1 : Int)), (1, zz.2.2.1)]) (0, ds, vds, noHp) (pk [4, 8, 9] rfl) (pk [10, 1] rfl) rfl ⟨Nat.zero_le _, rfl, (fr_no _), (Sl.mono ‹_› orL (fun _ _ h => h))⟩ ?_))))
 rintro ⟨k, xs, v10, K11⟩ hJ14
 obtain ⟨hk8, hi9, f12, h13⟩ : (k ≤ m.cons.length) ∧ (xs = filtC (m.cons.take k) ds) ∧ Fr B K11 ∧ Ints (orHp Hds K11) v10 xs := hJ14
 change KC _ _ (K11 :: _) [] _ ([(10, .int .i64 (k : Int)), (1, v10)] ++ _)
 refine cS (cr (ls9 rfl rfl ?_))
 refine ln (qc (cS (ci9 rfl (fun c15 => ?_) (fun c15 => ?_))))
 ·have hD := filtC_at hM hd hi9
  have hC : ConOk (m.cons.getD k nilCon) xs.length := (by rw [hD.l]; exact ⟨hM.c (by omega)⟩)
  refine sk (qc (cS (bl (cS (cr (kl_inC rfl rfl ‹_› (by omega) (fun p16 u18 u19 u20 h21 h22 h23 a17 => ?_)))))))
  refine kl_ldS rfl ‹_› rfl ?_
  refine kl_alloc (cs := [.int .i64 (0 : Int), .slice none 0 0, .slice none 0 0, .int .i64 (0 : Int), .slice none 0 0]) rfl (fun b24 hb25 => ?_)
  refine kl_stW (us := [.int .i64 ((m.cons.getD k nilCon).kind), u18, u19, .int .i64 ((m.cons.getD k nilCon).bound), u20]) rfl rfl rfl rfl (oc rfl (oc (Sl.oneCell ‹_›) (oc (Sl.oneCell ‹_›) (oc rfl (oc (Sl.oneCell ‹_›) oc_nil))))) rfl ?_
  refine ln (qc (cr (kl_ldW rfl rfl (mv rfl (kl_call rfl rfl (filter_ok (m.cons.getD k nilCon) xs hC hD.d ‹_› ‹_› ‹_› ‹_›) (fun v26 H27 f28 h29 => ?_))))))
  refine sg rfl (ln (qc (cr (ic9 rfl rfl (by omega) ?_))))
  refine mv rfl (ln (kq_cmp Hds H27 (fun c30 => ?_)))
  refine kq_roundK ((k + 1), (filtL (m.cons.getD k nilCon) xs), v26, H27) (by omega) (⟨by omega, (by rw [filtC_step (by omega), ← hi9]), f28, (Sl.mono ‹_› (orC c30) (fun _ _ h => h))⟩) (pk [10, 1] rfl) (pk [4, 8, 9] rfl) rfl (.cons _ slr9)
 ·refine ex9 (qc (cS (cr (mv rfl (sg rfl (ln (qc (rt ?_))))))))
  have e9 : xs = filtA m ds := by (rw [hi9, List.take_of_length_le (by omega)]; rfl)
  exact kq_ret rfl rfl K11 f12 (e9 ▸ (by assumption : Ints _ _ xs))
theorem fixI_ok {Hds : Hp} {vds : Value} {Hmd : Hp} {vmd : Value} {Hmc : Hp} {vmc : Value} (ds : List Int) (m : Mod) (hM : MOk m) (hd : DOk m.doms.length ds) (hds : Ints Hds vds ds) (hmd : Ints Hmd vmd m.doms) (hmc : Cons Hmc vmc m.cons) : Spec Tryz.prog 135 [vds, .func (.func 136) #[.agg #[vmd, vmc]] #[]] [Hds, Hmd, Hmc] (fun Hq vq => Ints Hq vq (prop m ds)) := by
 refine spec_of Tryz.func135 rfl rfl rfl (fun B => ?_)
 refine cS (cr (sg rfl (ln (qc (cS (cr (mv rfl (kl_call rfl rfl (copied_ok ds (by have := hd.l; have := hM.n; omega) ‹_›) (fun v1 H2 f3 o4 => ?_)))))))))
 have h5 := OwnL.ints o4
 refine sg rfl (ln (qc (bl (kc_loopK (A := List Int × Value × Hp) (fun zz => (DOk m.doms.length zz.1 ∧ prop m zz.1 = prop m ds) ∧ Fr B zz.2.2 ∧ Ints zz.2.2 zz.2.1 zz.1) (fun zz => sumN zz.1) (fun zz => zz.2.2) (fun zz => []) (fun zz => [(5, zz.2.1)]) (ds, v1, H2) (pc 1 rfl pn) (pc 5 rfl pn) rfl ⟨⟨hd, rfl⟩, f3, ‹_›⟩ ?_))))
 rintro ⟨xs, v8, K9⟩ hJ12
 obtain ⟨hi7, f10, h11⟩ : (DOk m.doms.length xs ∧ prop m xs = prop m ds) ∧ Fr B K9 ∧ Ints K9 v8 xs := hJ12
 change KC _ _ (K9 :: _) [] _ ([(5, v8)] ++ _)
 have hD := hi7.1
 refine bl (cS (cS (cr (mv rfl (cP rfl rfl (containsInts_ok xs (0 : Int) ‹_›) ?_)))))
 refine ln (qc (cd9 rfl (fun c13 => ?_) (fun c13 => ?_)))
 ·have c13r := c13
  try simp only [smpE] at c13
  refine cS (cr (mv rfl (le9 rfl ‹_› (fun l14 => ?_))))
  refine kl_mkL (R := IntV) (0 : Int) rfl rfl (by (have := hD.l; have := hM.n; omega)) (by decide) (by exact rfl) (fun v15 H16 f17 o18 => ?_)
  refine sg rfl (ln (qc (rt ?_)))
  have e9 : (List.replicate xs.length (0 : Int)) = prop m ds := by (rw [← hi7.2]; exact (prop_0 ‹_›).symm)
  exact kq_ret rfl rfl H16 f17 (e9 ▸ OwnL.ints o18)
 ·have c13r := c13
  try simp only [smpE] at c13
  refine sk (qc (cS (cr (mv rfl (mv rfl (kl_callB rfl rfl (filtered_ok m xs hM hD ‹_› ‹_› ‹_›) (fun v19 H20 f21 h22 => ?_)))))))
  refine sg rfl (ln (qc (cS (cS (cr (mv rfl (mv rfl (cP rfl rfl (equal_ok (filtA m xs) xs ‹_› ‹_›) ?_))))))))
  refine ln (qc (cd9 rfl (fun c23 => ?_) (fun c23 => ?_)))
  ·have c23r := c23
   try simp only [smpE] at c23
   refine cS (cr (mv rfl (sg rfl (ln (qc (rt ?_))))))
   have e9 : xs = prop m ds := by (rw [← hi7.2]; exact (prop_fix ‹_› ‹_›).symm)
   exact kq_ret rfl rfl K9 f10 (e9 ▸ (by assumption : Ints _ _ xs))
  ·have c23r := c23
   try simp only [smpE] at c23
   refine sk (qc (cr (mv rfl (sg rfl (ln (kq_roundK ((filtA m xs), v19, (orHp K9 H20)) (by (dsimp only; exact filtA_lt hM hD ‹_›)) (⟨⟨(filtA_ok hM hD).1, (prop_step hM hD ‹_› ‹_›).trans hi7.2⟩, (fr_or f10 f21), ‹_›⟩) (pc 5 rfl pn) (pc 1 rfl pn) rfl slr9))))))
theorem propagate_ok {Hmd : Hp} {vmd : Value} {Hmc : Hp} {vmc : Value} {Hds : Hp} {vds : Value} (m : Mod) (ds : List Int) (hM : MOk m) (hd : DOk m.doms.length ds) (hmd : Ints Hmd vmd m.doms) (hmc : Cons Hmc vmc m.cons) (hds : Ints Hds vds ds) : Spec Tryz.prog 92 [.agg #[vmd, vmc], vds] [Hmd, Hmc, Hds] (fun Hq vq => Ints Hq vq (prop m ds)) := by
 refine spec_of Tryz.func92 rfl rfl rfl (fun B => ?_)
 refine cS (cr (kl_box rfl rfl (fun p1 H2 f3 a4 => ?_)))
 refine sg rfl (ln (qc (cS (cr (mv rfl (kl_ldS rfl ‹_› rfl ?_))))))
 refine kl_mkfB rfl rfl ?_
 refine kl_call rfl rfl (fixI_ok ds m hM hd ‹_› ‹_› ‹_›) (fun v5 H6 f7 h8 => ?_)
 refine sg rfl (ln (qc (rt ?_)))
 exact kq_ret rfl rfl H6 f7 ‹_›
end
section
theorem sequal_ok {Ha : Hp} {va : Value} {Hb : Hp} {vb : Value} (a : List Int) (b : List Int) (ha : Ints Ha va a) (hb : Ints Hb vb b) : SpecP Tryz.prog 168 [va, vb] [Ha, Hb] (.bool (decide (a = b))) := by
 refine spec_of Tryz.func168 rfl rfl rfl (fun B => ?_)
 refine cS (cr (sg rfl (ln (qc (cS (cS (cr (mv rfl (le9 rfl ‹_› (fun l1 => ?_))))))))))
 refine mv rfl (le9 rfl ‹_› (fun l2 => ?_))
 refine kl_neq rfl rfl ?_
 refine ln (qc (ci9 rfl (fun c3 => ?_) (fun c3 => ?_)))
 ·refine cS (cr (sg rfl (ln (qc (rt (kq_retP rfl rfl (congrArg Value.bool ?_)))))))
  exact eq_len ‹_›
 ·refine sk (qc (cS (cS (cr (sg rfl (ln (qc (bl (kc_loop0 (A := Nat) (fun zz => (zz ≤ a.length) ∧ (a.take zz = b.take zz)) (fun zz => a.length - zz) (fun zz => [(5, .int .i64 (zz : Int))]) (0) (pk [0, 1] rfl) (pc 5 rfl pn) ⟨Nat.zero_le _, by simp⟩ ?_)))))))))
  rintro k hJ6
  obtain ⟨hk4, hi5⟩ : (k ≤ a.length) ∧ (a.take k = b.take k) := hJ6
  change KC _ _ (_) _ _ ([(5, .int .i64 (k : Int))] ++ _)
  refine cS (cS (cr (mv rfl (mv rfl (le9 rfl ‹_› (fun l7 => ?_))))))
  refine ls9 rfl rfl ?_
  refine ln (qc (ci9 rfl (fun c8 => ?_) (fun c8 => ?_)))
  ·refine sk (qc (cS (bl (cS (kc_draw 9 [true, true, true, true, true, true, true, true, true] (by kernel_rfl) (by kernel_rfl) ?_)))))
   refine mv rfl (mv rfl (kl_inI rfl rfl ‹_› (by omega) (fun p9 a10 => ?_)))
   refine ld rfl ‹_› (mv rfl (mv rfl (kl_inI rfl rfl ‹_› (by omega) (fun p11 a12 => ?_))))
   refine ld rfl ‹_› (kl_neq rfl rfl ?_)
   refine ln (qc (ci9 rfl (fun c13 => ?_) (fun c13 => ?_)))
   ·refine cS (cr (sg rfl (ln (qc (rt (kq_retP rfl rfl (congrArg Value.bool ?_)))))))
    exact eq_at (k := k) 0 (by simpa using by assumption)
   ·refine sk (qc (cr (mv rfl (ic9 rfl rfl (by omega) ?_))))
    refine sg rfl (ln (kq_round0 ((k + 1)) (by omega) (⟨by omega, eq_step 0 (by omega) (by omega) hi5 (by first | exact Decidable.not_not.1 ‹_› | (simpa using by assumption))⟩) (pc 5 rfl pn) (pk [0, 1] rfl) slr9))
  ·refine ex9 (qc (cS (cr (sg rfl (ln (qc (rt (kq_retP rfl rfl (congrArg Value.bool ?_)))))))))
   exact eq_end (k := k) (by omega) (by omega) ‹_›
abbrev walkSt (k : Nat) : Prop := ∀ {He Hcv Hca Hcr Hd Hx Hs : Hp} {pe vcv vca vcr vd vx vs : Value} (c : Con) (ds x p s : List Int) (T : List (List Int)) (i : Nat) (hC : ConOk c ds.length) (hd : DomV ds) (hk : i + k = c.vars.length) (hx : x.length = c.vars.length) (hp : x.take i = p) (hv : Vals p) (hs : s = suppV c T)
  (hcv : Ints Hcv vcv c.vars) (hca : Ints Hca vca c.args) (hcr : Rows Hcr vcr c.rows) (hds : Ints Hd vd ds) (ae : At He pe [.int .i64 c.kind, vcv, vca, .int .i64 c.bound, vcr, vd, vx, vs]) (ox : OwnL 3 1 Hx noHp IntV vx x) (os : OwnL 3 1 Hs noHp IntV vs s),
  SpecT Tryz.prog 183 [pe, .int .i64 (i : Int)] [Hx, Hs] [He, Hcv, Hca, Hcr, Hd] (fun vq L1 Ln _ => vq = .tuple #[] ∧ Ln = [] ∧ ∃ (Hx2 Hs2 : Hp) (x2 : List Int), L1 = [Hx2, Hs2] ∧ OwnL 3 1 Hx2 noHp IntV vx x2 ∧ x2.length = c.vars.length ∧ x2.take i = p ∧ OwnL 3 1 Hs2 noHp IntV vs (suppV c (T ++ extP (wordL c.vars ds) i p)))
theorem walk_step (k : Nat) (ih : ∀ j, j < k → walkSt j) : walkSt k := by
 intro He Hcv Hca Hcr Hd Hx Hs pe vcv vca vcr vd vx vs c ds x p s T i hC hd hk hx hp hv hs hcv hca hcr hds ae ox os
 have ho := hC.one
 have hpl : p.length = i := (by rw [← hp, List.length_take]; omega)
 refine specT_of Tryz.func183 rfl rfl rfl (fun B => ?_)
 refine cS (cS (cr (mv rfl (mv rfl (kl_nilchkA rfl ‹_› ?_)))))
 refine fd9 rfl ‹_› (fun p1 a2 => ?_)
 refine ld rfl ‹_› (lL rfl ox (fun l3 => ?_))
 refine eq9 rfl rfl ?_
 refine ln (qc (ci9 rfl (fun c4 => ?_) (fun c4 => ?_)))
 ·have hxp : x = p := (by rw [← hp, List.take_of_length_le (by omega)])
  have hS : SatOk c x := sat_of hC hx (hxp ▸ hv)
  refine cS (cS (kc_tree (fun i => ([8] : List Nat).contains i) [] (by kernel_rfl) ?_))
  refine tq 0 nsl rfl (mv rfl (ln (qq (tq 1 nsl rfl (kl_nilchkA rfl ‹_› ?_)))))
  refine ln (qq (tq 2 nsl rfl (fd9 rfl ‹_› (fun p5 a6 => ?_))))
  refine ln (qq (tq 3 nsl rfl (kl_ldS rfl (At.take 5 ‹_›) rfl ?_)))
  refine ln (qq (tq 4 nsl rfl (mv rfl (ln (qq (tq 5 nsl rfl (kl_nilchkA rfl ‹_› ?_)))))))
  refine ln (qq (tq 6 nsl rfl (fd9 rfl ‹_› (fun p7 a8 => ?_))))
  refine ln (qq (tq 7 nsl rfl (ld rfl ‹_› (ln (qq (ta 8 rfl (cP rfl rfl (satisfies_ok c x hS ‹_› ‹_› ‹_› (OwnL.ints ox)) ?_)))))))
  refine ln (qx rfl (kt_end (by kernel_rfl) ?_))
  refine qc (cd9 rfl (fun c9 => ?_) (fun c9 => ?_))
  ·have c9r := c9
   try simp only [smpE] at c9
   refine cS (cr (sg rfl (ln (qc (bl (kc_loopL (A := Nat × List Int × Hp) (fun zz => (zz.1 ≤ x.length) ∧ (zz.2.1 = suppM c T x zz.1) ∧ OwnL 3 1 zz.2.2 noHp IntV vs zz.2.1) (fun zz => x.length - zz.1) (fun zz => [Hx, zz.2.2]) (fun zz => [(4, .int .i64 (zz.1 : Int))]) (0, s, Hs) (pk [0, 1] rfl) (pc 4 rfl pn) rfl ⟨Nat.zero_le _, (by rw [hs, suppM_0]), os⟩ ?_))))))
   rintro ⟨k1, s1, H12⟩ hJ15
   obtain ⟨hk10, hi11, o13⟩ : (k1 ≤ x.length) ∧ (s1 = suppM c T x k1) ∧ OwnL 3 1 H12 noHp IntV vs s1 := hJ15
   change KC _ _ (_) [Hx, H12] _ ([(4, .int .i64 (k1 : Int))] ++ _)
   have hln : s1.length = c.vars.length := (by rw [hi11]; exact suppM_len c T x k1)
   refine cS (cS (cr (mv rfl (mv rfl (kl_nilchkA rfl ‹_› ?_)))))
   refine fd9 rfl ‹_› (fun p16 a17 => ?_)
   refine ld rfl ‹_› (lL rfl ox (fun l18 => ?_))
   refine ls9 rfl rfl ?_
   refine ln (qc (ci9 rfl (fun c19 => ?_) (fun c19 => ?_)))
   ·have hv1 := hS.val.at (k := k1) (by omega)
    have hsl := shl_le hv1
    have hsb := supp_addle (c := c) (T := T) hS (by omega : k1 < x.length)
    rw [← hi11] at hsb
    refine sk (qc (cS (bl (cS (kc_draw 16 [true, true, true, true, true, true, true, true, true, true, true, true, true, true, false, true] (by kernel_rfl) (by kernel_rfl) ?_)))))
    refine mv rfl (kl_nilchkA rfl ‹_› ?_)
    refine fd9 rfl ‹_› (fun p20 a21 => ?_)
    refine ld rfl ‹_› (mv rfl (kl_ixLn rfl rfl ‹_› (by omega) (fun p22 q23 => ?_)))
    refine kl_ldLI rfl ‹_› ‹_› (by omega) ?_
    refine mv rfl (kl_nilchkA rfl ‹_› ?_)
    refine fd9 rfl ‹_› (fun p24 a25 => ?_)
    refine ld rfl ‹_› (mv rfl (kl_ixLn rfl rfl ‹_› (by omega) (fun p26 q27 => ?_)))
    refine kl_ldLI rfl ‹_› ‹_› (by omega) ?_
    refine cP rfl rfl (domainHas_ok (s1.getD k1 0) (x.getD k1 0)) ?_
    refine nt9 rfl (ln (qc (cd9 rfl (fun c28 => ?_) (fun c28 => ?_))))
    ·have c28r := c28
     try simp only [smpE] at c28
     refine kc_draw 22 [true, true, true, true, true, true, true, true, true, true, true, true, true, true, true, true, true, true, true, true, true, true, false] (by kernel_rfl) (by kernel_rfl) ?_
     refine mv rfl (kl_nilchkA rfl ‹_› ?_)
     refine fd9 rfl ‹_› (fun p29 a30 => ?_)
     refine ld rfl ‹_› (mv rfl (mv rfl (kl_nilchkA rfl ‹_› ?_)))
     refine fd9 rfl ‹_› (fun p31 a32 => ?_)
     refine ld rfl ‹_› (mv rfl (kl_ixLn rfl rfl ‹_› (by omega) (fun p33 q34 => ?_)))
     refine kl_ldLI rfl ‹_› ‹_› (by omega) ?_
     refine mv rfl (kl_nilchkA rfl ‹_› ?_)
     refine fd9 rfl ‹_› (fun p35 a36 => ?_)
     refine ld rfl ‹_› (mv rfl (kl_ixLn rfl rfl ‹_› (by omega) (fun p37 q38 => ?_)))
     refine kl_ldLI rfl ‹_› ‹_› (by omega) ?_
     refine kl_shl rfl rfl (by omega) ?_
     refine ad9 rfl rfl (by omega) ?_
     refine kl_ixLn rfl rfl ‹_› (by omega) (fun p39 q40 => ?_)
     refine kl_stL ((s1.getD k1 0) + (ishl (1 : Int) (x.getD k1 0))) rfl rfl ‹_› o13 (by omega) rfl rfl rfl (fun H41 o42 f43 => ?_)
     refine ln (qc (cr (mv rfl (ic9 rfl rfl (by omega) ?_))))
     refine sg rfl (ln (rL ((k1 + 1), (s1.set k1 ((s1.getD k1 0) + (ishl (1 : Int) (x.getD k1 0)))), H41) (by omega) (⟨by omega, (by rw [hi11] at *; first | exact supp_stepS ‹_› hS (by omega) ‹_› | exact supp_stepN ‹_› hS (by omega) ‹_›), o42⟩) (pc 4 rfl pn) (pk [0, 1] rfl) rfl slr9))
    ·have c28r := c28
     try simp only [smpE] at c28
     refine sk (qc (cr (mv rfl (ic9 rfl rfl (by omega) ?_))))
     refine sg rfl (ln (rL ((k1 + 1), s1, H12) (by omega) (⟨by omega, (by rw [hi11] at *; first | exact supp_stepS ‹_› hS (by omega) ‹_› | exact supp_stepN ‹_› hS (by omega) ‹_›), o13⟩) (pc 4 rfl pn) (pk [0, 1] rfl) rfl slr9))
   ·refine ex9 (qc (rt ?_))
    exact kq_retT0 rfl [Hx, H12] [] noHp frn (fr_no _) ⟨rfl, rfl, Hx, H12, x, rfl, ox, hx, hp, OwnL.cast (by rw [extP_base (by simp [wordL]; omega), ← hxp]; exact supp_stepT hi11 hS (by omega)) o13⟩
  ·have c9r := c9
   try simp only [smpE] at c9
   refine sk (qc (rt ?_))
   exact kq_retT0 rfl [Hx, Hs] [] noHp frn (fr_no _) ⟨rfl, rfl, Hx, Hs, x, rfl, ox, hx, hp, OwnL.cast (by rw [extP_base (by simp [wordL]; omega), ← hxp, suppV_no ‹_›]; exact hs) os⟩
 ·refine sk (qc (cS (cr (sg rfl (ln (qc (bl (kc_loopL (A := Nat × List Int × Hp × List Int × Hp) (fun zz => (zz.1 ≤ 6) ∧ (zz.2.1.length = c.vars.length ∧ zz.2.1.take i = p ∧ zz.2.2.2.1 = suppV c (T ++ extTo (wordL c.vars ds) i p zz.1)) ∧ OwnL 3 1 zz.2.2.1 noHp IntV vx zz.2.1 ∧ OwnL 3 1 zz.2.2.2.2 noHp IntV vs zz.2.2.2.1) (fun zz => 6 - zz.1) (fun zz => [zz.2.2.1, zz.2.2.2.2]) (fun zz => [(5, .int .i64 (zz.1 : Int))]) (0, x, Hx, s, Hs) (pk [0, 1] rfl) (pc 5 rfl pn) rfl ⟨Nat.zero_le _, ⟨hx, hp, by rw [extTo_0, List.append_nil]; exact hs⟩, ox, os⟩ ?_))))))))
  rintro ⟨v, x1, H47, s1, H50⟩ hJ53
  obtain ⟨hk45, hi46, o48, o51⟩ : (v ≤ 6) ∧ (x1.length = c.vars.length ∧ x1.take i = p ∧ s1 = suppV c (T ++ extTo (wordL c.vars ds) i p v)) ∧ OwnL 3 1 H47 noHp IntV vx x1 ∧ OwnL 3 1 H50 noHp IntV vs s1 := hJ53
  change KC _ _ (_) [H47, H50] _ ([(5, .int .i64 (v : Int))] ++ _)
  refine cS (cS (cr (mv rfl (kl_leq rfl rfl ?_))))
  refine ln (qc (ci9 rfl (fun c54 => ?_) (fun c54 => ?_)))
  ·have hv2 := hC.at (k := i) (by omega)
   refine sk (qc (cS (bl (cS (kc_tree (fun i => ([15] : List Nat).contains i) [] (by kernel_rfl) ?_)))))
   refine tq 0 nsl rfl (mv rfl (ln (qq (tq 1 nsl rfl (kl_nilchkA rfl ‹_› ?_)))))
   refine ln (qq (tq 2 nsl rfl (fd9 rfl ‹_› (fun p55 a56 => ?_))))
   refine ln (qq (tq 3 nsl rfl (ld rfl ‹_› (ln (qq (tq 4 nsl rfl (mv rfl (ln (qq (tq 5 nsl rfl (kl_nilchkA rfl ‹_› ?_)))))))))))
   refine ln (qq (tq 6 nsl rfl (fd9 rfl ‹_› (fun p57 a58 => ?_))))
   refine ln (qq (tq 7 nsl rfl (fd9 rfl ‹_› (fun p59 a60 => ?_))))
   refine ln (qq (tq 8 nsl rfl (ld rfl ‹_› (ln (qq (tq 9 nsl rfl (mv rfl (ln (qq (tq 10 nsl rfl (kl_inI rfl rfl ‹_› (by omega) (fun p61 a62 => ?_))))))))))))
   refine ln (qq (tq 11 nsl rfl (ld rfl ‹_› (ln (qq (tq 12 nsl rfl (kl_ixI rfl rfl ‹_› (by omega) (by omega) (fun p63 a64 => ?_))))))))
   refine ln (qq (tq 13 nsl rfl (ld rfl ‹_› (ln (qq (tq 14 nsl rfl (mv rfl (ln (qq (ta 15 rfl (cP rfl rfl (domainHas_ok (ds.getD (c.vars.getD i 0).toNat 0) (v : Int)) ?_)))))))))))
   refine ln (qx rfl (kt_end (by kernel_rfl) ?_))
   refine qc (cd9 rfl (fun c65 => ?_) (fun c65 => ?_))
   ·have c65r := c65
    try simp only [smpE] at c65
    have hb1 : hasB ((wordL c.vars ds).getD i 0) (v : Int) = true := (by rw [word_at (by omega), ← dh_iff (by omega : v < 6)]; exact c65r)
    refine cS (cr (mv rfl (kl_nilchkA rfl ‹_› ?_)))
    refine fd9 rfl ‹_› (fun p66 a67 => ?_)
    refine ld rfl ‹_› (mv rfl (mv rfl (kl_ixLn rfl rfl ‹_› (by omega) (fun p68 q69 => ?_))))
    refine kl_stL (v : Int) rfl rfl ‹_› o48 (by omega) rfl rfl rfl (fun H70 o71 f72 => ?_)
    refine ln (qc (cr (mv rfl (mv rfl (ic9 rfl rfl (by omega) ?_)))))
    refine cT (vs := [_, .int .i64 (((i + 1) : Nat) : Int)]) rfl rfl (ih (k - 1) (by omega) c ds (x1.set i (v : Int)) (p ++ [(v : Int)]) s1 (T ++ extTo (wordL c.vars ds) i p v) (i + 1) hC hd (by omega) (by rw [List.length_set]; exact hi46.1) (take_set_succ hi46.2.1 (by omega)) (hv.snoc (by omega)) hi46.2.2 hcv hca hcr hds ae o71 o51) (fun v74 L1 Ln K75 h76 g77 g78 => ?_)
    obtain ⟨rfl, rfl, H79, H80, x81, rfl, o82, h83, h84, o85⟩ := h76
    refine nm ?_
    refine ln (qc (cr (mv rfl (ic9 rfl rfl (by omega) ?_))))
    refine sg rfl (ln (rL ((v + 1), x81, H79, (suppV c ((T ++ extTo (wordL c.vars ds) i p v) ++ extP (wordL c.vars ds) (i + 1) (p ++ [(v : Int)]))), H80) (by omega) (⟨by omega, ⟨h83, take_of_succ h84 hpl, (by rw [← extTo_T hb1, List.append_assoc])⟩, o82, o85⟩) (pc 5 rfl pn) (pk [0, 1] rfl) rfl slr9))
   ·have c65r := c65
    try simp only [smpE] at c65
    have hb1 : hasB ((wordL c.vars ds).getD i 0) (v : Int) = false := (by rw [word_at (by omega), ← dh_iff (by omega : v < 6)]; exact c65r)
    refine sk (qc (cr (mv rfl (ic9 rfl rfl (by omega) ?_))))
    refine sg rfl (ln (rL ((v + 1), x1, H47, s1, H50) (by omega) (⟨by omega, ⟨hi46.1, hi46.2.1, (by rw [hi46.2.2, extTo_F hb1])⟩, o48, o51⟩) (pc 5 rfl pn) (pk [0, 1] rfl) rfl slr9))
  ·refine ex9 ?_
   exact kq_retT0 rfl [H47, H50] [] noHp frn (fr_no _) ⟨rfl, rfl, H47, H50, x1, rfl, o48, hi46.1, hi46.2.1, OwnL.cast (by rw [hi46.2.2, extTo_6 (by simp [wordL]; omega) (by omega)]) o51⟩
theorem walk_ok (k : Nat) : walkSt k := by
 induction k using Nat.strongRecOn with
 | _ k ih => exact @walk_step k ih
end
end Go.Proofs.YtolndgeihijlbaaGreat
