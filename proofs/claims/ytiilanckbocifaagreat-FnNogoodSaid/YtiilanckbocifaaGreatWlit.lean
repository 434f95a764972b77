/- Walks of functions of the program: each returns what the plain function gives. Conditions: those that each statement names. -/
import Derived.Test.YtiilanckbocifaaGreatWvalid
import Derived.Test.YtiilanckbocifaaGreatWsat
import Derived.Test.YtiilanckbocifaaGreatWfix
import Derived.Test.YtiilanckbocifaaGreatPureA
namespace Go.Proofs.YtiilanckbocifaaGreat
open Go
set_option linter.unusedSimpArgs false
set_option linter.unusedVariables false
theorem truesL_ok (l : Lit) (h0 : 0 ≤ l.val) : SpecP Tryz.prog 62 [.agg #[.int .i64 l.var, .int .i64 l.val, .bool l.neg]] [] (.int .i64 (truesI l)) := by
 refine spec_of Tryz.func62 rfl rfl rfl (fun B => ?_)
 refine kc_seq (kc_region (kl_box rfl rfl (fun p1 H2 f3 a4 => ?_)))
 refine kl_as rfl (kl_nil (kq_code (kc_seq (kc_seq (kc_region (kl_fd rfl (by assumption) (fun p5 a6 => ?_)))))))
 refine kl_ld rfl (by assumption) (kl_nil (kq_code (kc_cond rfl (fun c7 => ?_) (fun c7 => ?_))))
 ·skip
  have c7r := c7
  try simp only [smpC, decide_eq_true_eq, decide_eq_false_iff_not] at c7
  refine kc_seq (kc_region (kl_fd rfl (by assumption) (fun p8 a9 => ?_)))
  refine kl_ld rfl (by assumption) (kl_shl rfl rfl (by omega) ?_)
  refine kl_andNot rfl rfl ?_
  refine kl_as rfl (kl_nil (kq_code (kc_ret (kq_retP rfl rfl (congrArg (Value.int .i64) ?_)))))
  exact trues_T (by assumption)
 ·skip
  have c7r := c7
  try simp only [smpC, decide_eq_true_eq, decide_eq_false_iff_not] at c7
  refine kc_skipQ (kq_code (kc_seq (kc_region (kl_fd rfl (by assumption) (fun p10 a11 => ?_)))))
  refine kl_ld rfl (by assumption) (kl_shl rfl rfl (by omega) ?_)
  refine kl_as rfl (kl_nil (kq_code (kc_ret (kq_retP rfl rfl (congrArg (Value.int .i64) ?_)))))
  exact trues_F (by assumption)
theorem orInt_ok {Hxs : Hp} {vxs : Value} (xs : List Int) (hxs : Ints Hxs vxs xs) : SpecP Tryz.prog 102 [vxs] [Hxs] (.int .i64 (orI xs)) := by
 refine spec_of Tryz.func102 rfl rfl rfl (fun B => ?_)
 refine kc_seq (kc_region (kl_as rfl (kl_nil (kq_code (kc_seq (kc_region (kl_as rfl (kl_nil (kq_code (kc_seq (kc_seq (kc_region (kl_mv rfl (kl_len rfl (by assumption) (fun l1 => ?_)))))))))))))))
 refine kl_mv rfl (kl_nil (kq_code (kc_block (kc_loop0 (A := Nat) (fun zz => (zz ≤ xs.length) ∧ ((xs.take zz).all (fun x => decide (x = 0)) = true)) (fun zz => xs.length - zz) (fun zz => [(8, .int .i64 (zz : Int))]) (0) (pc 3 rfl (pc 6 rfl (pc 7 rfl pn))) (pc 8 rfl pn) ⟨Nat.zero_le _, by simp⟩ ?_))))
 rintro k hJ4
 obtain ⟨hk2, hi3⟩ : (k ≤ xs.length) ∧ ((xs.take k).all (fun x => decide (x = 0)) = true) := hJ4
 change KC _ _ (_) _ _ ([(8, .int .i64 (k : Int))] ++ _)
 refine kc_seq (kc_region (kl_lss rfl rfl ?_))
 refine kl_nil (kq_code (kc_seq (kc_if rfl (fun c5 => ?_) (fun c5 => ?_))))
 ·skip
  refine kc_skipQ (kq_code (kc_seq (kc_block (kc_seq (kc_region (kl_inI rfl rfl (by assumption) (by omega) (fun p6 a7 => ?_)))))))
  refine kl_ld rfl (by assumption) (kl_as rfl (kl_nil (kq_code (kc_seq (kc_region (kl_mv rfl (kl_mv rfl (kl_neq rfl rfl ?_))))))))
  refine kl_nil (kq_code (kc_if rfl (fun c8 => ?_) (fun c8 => ?_)))
  ·skip
   refine kc_seq (kc_region (kl_mv rfl (kl_as rfl (kl_nil (kq_code (kc_ret (kq_retP rfl rfl (congrArg (Value.int .i64) ?_))))))))
   exact orI_at (by omega) hi3 (by assumption)
  ·skip
   refine kc_skipQ (kq_code (kc_region (kl_inc rfl rfl (by omega) ?_)))
   refine kl_mv rfl (kl_nil (kq_round0 ((k + 1)) (by omega) (⟨by omega, all0_step (by omega) hi3 (by assumption)⟩) (pc 8 rfl pn) (pc 3 rfl (pc 6 rfl (pc 7 rfl pn))) (List.Sublist.refl _)))
 ·skip
  refine kc_exit (kq_code (kc_seq (kc_region (kl_mv rfl (kl_as rfl (kl_nil (kq_code (kc_ret (kq_retP rfl rfl (congrArg (Value.int .i64) ?_))))))))))
  exact all0_end (by omega) hi3
theorem litCmp_ok (a : Lit) (b : Lit) : SpecP Tryz.prog 55 [.agg #[.int .i64 a.var, .int .i64 a.val, .bool a.neg], .agg #[.int .i64 b.var, .int .i64 b.val, .bool b.neg]] [] (.int .i64 (litCmp a b)) := by
 refine spec_of Tryz.func55 rfl rfl rfl (fun B => ?_)
 refine kc_seq (kc_region (kl_box rfl rfl (fun p1 H2 f3 a4 => ?_)))
 refine kl_box rfl rfl (fun p5 H6 f7 a8 => ?_)
 refine kl_as rfl (kl_nil (kq_code (kc_seq (kc_region (kl_mkMap (fun b9 hb10 => ?_))))))
 refine kl_insB rfl rfl rfl ?_
 refine kl_frz (sing b9 (.map #[⟨.bool true, .int .i64 (1 : Int), 0⟩] 1)) ?_
 refine kl_mv rfl (kl_as rfl (kl_nil (kq_code (kc_seq (kc_tree (fun i => ([18, 19, 20] : List Nat).contains i) [] (by kernel_rfl) ?_)))))
 refine kt_q 0 (List.nil_sublist _) rfl (by kernel_rfl) (kl_fd rfl (by assumption) (fun p11 a12 => ?_))
 refine kl_nil (kq_q (kt_q 1 (List.nil_sublist _) rfl (by kernel_rfl) (kl_ld rfl (by assumption) (kl_nil (kq_q (kt_q 2 (List.nil_sublist _) rfl (by kernel_rfl) (kl_fd rfl (by assumption) (fun p13 a14 => ?_))))))))
 refine kl_nil (kq_q (kt_q 3 (List.nil_sublist _) rfl (by kernel_rfl) (kl_ld rfl (by assumption) (kl_nil (kq_q (kt_q 5 (List.nil_sublist _) rfl (by kernel_rfl) (kl_fd rfl (by assumption) (fun p15 a16 => ?_))))))))
 refine kl_nil (kq_q (kt_q 6 (List.nil_sublist _) rfl (by kernel_rfl) (kl_ld rfl (by assumption) (kl_nil (kq_q (kt_q 7 (List.nil_sublist _) rfl (by kernel_rfl) (kl_fd rfl (by assumption) (fun p17 a18 => ?_))))))))
 refine kl_nil (kq_q (kt_q 8 (List.nil_sublist _) rfl (by kernel_rfl) (kl_ld rfl (by assumption) (kl_nil (kq_q (kt_q 10 (List.nil_sublist _) rfl (by kernel_rfl) (kl_mv rfl (kl_nil (kq_q (kt_q 11 (List.nil_sublist _) rfl (by kernel_rfl) (kl_fd rfl (by assumption) (fun p19 a20 => ?_))))))))))))
 refine kl_nil (kq_q (kt_q 12 (List.nil_sublist _) rfl (by kernel_rfl) (kl_ld rfl (by assumption) (kl_nil (kq_q (kt_q 13 (List.nil_sublist _) rfl (by kernel_rfl) (kl_lkB rfl rfl ?_)))))))
 refine kl_nil (kq_q (kt_q 14 (List.nil_sublist _) rfl (by kernel_rfl) (kl_mv rfl (kl_nil (kq_q (kt_q 15 (List.nil_sublist _) rfl (by kernel_rfl) (kl_fd rfl (by assumption) (fun p21 a22 => ?_))))))))
 refine kl_nil (kq_q (kt_q 16 (List.nil_sublist _) rfl (by kernel_rfl) (kl_ld rfl (by assumption) (kl_nil (kq_q (kt_q 17 (List.nil_sublist _) rfl (by kernel_rfl) (kl_lkB rfl rfl ?_)))))))
 refine kl_nil (kq_q (kt_a 4 rfl (by kernel_rfl) (kl_callP rfl rfl (cmpInt_ok a.var b.var) ?_)))
 refine kl_nil (kq_a (List.nil_sublist _) (kt_a 9 rfl (by kernel_rfl) (kl_callP rfl rfl (cmpInt_ok a.val b.val) ?_)))
 refine kl_nil (kq_a (List.nil_sublist _) (kt_a 18 rfl (by kernel_rfl) (kl_callP rfl rfl (cmpInt_ok (if a.neg = true then 1 else 0) (if b.neg = true then 1 else 0)) ?_)))
 refine kl_nil (kq_x rfl (kt_a 19 rfl (by kernel_rfl) (kl_bs rfl rfl rfl (by decide) (ca rfl (ca rfl (ca rfl ca_nil))) (fun v23 H24 f25 r26 s27 => ?_))))
 have h28 : Ints H24 v23 [(cmpI a.var b.var), (cmpI a.val b.val), (cmpI (if a.neg = true then 1 else 0) (if b.neg = true then 1 else 0))] := litInts (xs := [(cmpI a.var b.var), (cmpI a.val b.val), (cmpI (if a.neg = true then 1 else 0) (if b.neg = true then 1 else 0))]) (by simpa using s27)
 refine kl_nil (kq_x rfl (kt_a 20 rfl (by kernel_rfl) (kl_callP rfl rfl (orInt_ok ([(cmpI a.var b.var), (cmpI a.val b.val), (cmpI (if a.neg = true then 1 else 0) (if b.neg = true then 1 else 0))]) (by assumption)) ?_)))
 refine kl_nil (kq_x rfl (kt_q 21 (List.nil_sublist _) rfl (by kernel_rfl) (kl_as rfl (kl_nil (kq_q (kt_end (by kernel_rfl) ?_))))))
 refine kq_code (kc_ret (kq_retP rfl rfl (congrArg (Value.int .i64) ?_)))
 rfl
theorem validClI_ok {Hc : Hp} {vc : Value} (c : List Lit) (n : Int) (hn : -9223372036854775807 ≤ n ∧ n ≤ 9223372036854775807) (hc : Lits Hc vc c) : SpecP Tryz.prog 14 [vc, .int .i64 n] [Hc] (.bool (clI n c)) := by
 refine spec_of Tryz.func14 rfl rfl rfl (fun B => ?_)
 refine kc_seq (kc_region (kl_as rfl (kl_nil (kq_code (kc_seq (kc_seq (kc_region (kl_mv rfl (kl_len rfl (by assumption) (fun l1 => ?_))))))))))
 refine kl_mv rfl (kl_nil (kq_code (kc_block (kc_loop0 (A := Nat) (fun zz => (zz ≤ c.length) ∧ (clTo n c zz = true)) (fun zz => c.length - zz) (fun zz => [(9, .int .i64 (zz : Int))]) (0) (pc 0 rfl (pc 1 rfl (pc 7 rfl (pc 8 rfl pn)))) (pc 9 rfl pn) ⟨Nat.zero_le _, rfl⟩ ?_))))
 rintro k hJ4
 obtain ⟨hk2, hi3⟩ : (k ≤ c.length) ∧ (clTo n c k = true) := hJ4
 change KC _ _ (_) _ _ ([(9, .int .i64 (k : Int))] ++ _)
 refine kc_seq (kc_region (kl_lss rfl rfl ?_))
 refine kl_nil (kq_code (kc_seq (kc_if rfl (fun c5 => ?_) (fun c5 => ?_))))
 ·skip
  refine kc_skipQ (kq_code (kc_seq (kc_block (kc_seq (kc_region (kl_mv rfl (kl_inQ rfl rfl (by assumption) (by omega) (fun p6 a7 => ?_))))))))
  refine kl_ldS rfl (by assumption) rfl ?_
  refine kl_alloc (cs := [.int .i64 (0 : Int), .int .i64 (0 : Int), .bool false]) rfl (fun b8 hb9 => ?_)
  refine kl_as rfl (kl_stW (us := [.int .i64 ((c.getD k nilLit).var), .int .i64 ((c.getD k nilLit).val), .bool ((c.getD k nilLit).neg)]) rfl rfl rfl rfl (oc rfl (oc rfl (oc rfl oc_nil))) rfl ?_)
  refine kl_nil (kq_code (kc_seq (kc_draw 26 [true, true, true, true, false, true, true, true, true, false, true, true, true, true, true, true, true, true, true, true, true, true, false, true, true, true] (by kernel_rfl) (by kernel_rfl) ?_)))
  refine kl_fdV rfl (kl_ldB rfl rfl (kl_mv rfl (kl_sub rfl rfl (by omega) ?_)))
  refine kl_callP rfl rfl (within_ok ((c.getD k nilLit).var) (0 : Int) (n - (1 : Int))) ?_
  refine kl_not rfl (kl_mv rfl (kl_join 5 25 (.bool (!(withinB ((c.getD k nilLit).var) (0 : Int) (n - (1 : Int))) || !(withinB ((c.getD k nilLit).val) 0 5))) (pc 0 rfl (pc 1 rfl (pc 5 rfl (pc 6 rfl (pc 7 rfl (pc 8 rfl (pc 9 rfl (pc 10 rfl (pc 11 rfl (pc 12 rfl (pc 13 rfl (pc 14 rfl (pc 15 rfl (pc 16 rfl (pc 17 rfl (pc 18 rfl (pc 19 rfl (pc 20 rfl pn)))))))))))))))))) (fun J11 => ?_) ?_))
  ·rcases Bool.eq_false_or_eq_true (!(withinB ((c.getD k nilLit).var) (0 : Int) (n - (1 : Int)))) with g10 | g10
   ·skip
    refine kl_gF rfl rfl g10 (kl_gF rfl rfl g10 (kl_gF rfl rfl g10 (kl_gF rfl rfl g10 (kl_orT (!(withinB ((c.getD k nilLit).val) 0 5)) rfl rfl g10 ?_))))
    exact J11 _ (pc 25 rfl (pc 0 rfl (pc 1 rfl (pc 5 rfl (pc 6 rfl (pc 7 rfl (pc 8 rfl (pc 9 rfl (pc 10 rfl (pc 11 rfl (pc 12 rfl (pc 13 rfl (pc 14 rfl (pc 15 rfl (pc 16 rfl (pc 17 rfl (pc 18 rfl (pc 19 rfl (pc 20 rfl pn)))))))))))))))))))
   ·skip
    have g10p := g10
    try simp only [Bool.not_eq_true', Bool.not_eq_false', decide_eq_true_eq, decide_eq_false_iff_not, Bool.and_eq_true, Bool.or_eq_false_iff, withinB_iff] at g10p
    refine kl_gT rfl rfl g10 (kl_fdV rfl (kl_gT rfl rfl g10 (kl_ldB rfl rfl (kl_gT rfl rfl g10 (kl_callP rfl rfl (valueOk_ok ((c.getD k nilLit).val)) ?_)))))
    refine kl_gT rfl rfl g10 (kl_not rfl (kl_orF rfl rfl g10 ?_))
    exact J11 _ (pc 25 rfl (pc 0 rfl (pc 1 rfl (pc 5 rfl (pc 6 rfl (pc 7 rfl (pc 8 rfl (pc 9 rfl (pc 10 rfl (pc 11 rfl (pc 12 rfl (pc 13 rfl (pc 14 rfl (pc 15 rfl (pc 16 rfl (pc 17 rfl (pc 18 rfl (pc 19 rfl (pc 20 rfl pn)))))))))))))))))))
  refine kl_mv rfl (kl_join 13 39 (.bool ((!(withinB ((c.getD k nilLit).var) (0 : Int) (n - (1 : Int))) || !(withinB ((c.getD k nilLit).val) 0 5)) || (decide ((0 : Int) < (k : Int)) && decide ((0 : Int) ≤ (litCmp (c.getD ((k : Int) - (1 : Int)).toNat nilLit) (c.getD k nilLit)))))) (pc 0 rfl (pc 1 rfl (pc 5 rfl (pc 6 rfl (pc 7 rfl (pc 8 rfl (pc 9 rfl (pc 10 rfl (pc 11 rfl (pc 12 rfl (pc 13 rfl (pc 14 rfl (pc 15 rfl (pc 16 rfl (pc 17 rfl (pc 18 rfl (pc 19 rfl (pc 20 rfl (pc 25 rfl (pc 26 rfl pn)))))))))))))))))))) (fun J17 => ?_) ?_)
  ·rcases Bool.eq_false_or_eq_true (!(withinB ((c.getD k nilLit).var) (0 : Int) (n - (1 : Int))) || !(withinB ((c.getD k nilLit).val) 0 5)) with g12 | g12
   ·skip
    refine kl_gF rfl rfl g12 (kl_gF rfl rfl g12 (kl_gF rfl rfl g12 (kl_gU rfl rfl (kl_gU rfl rfl (kl_gU rfl rfl (kl_gU rfl rfl (kl_gU rfl rfl (kl_gU rfl rfl ?_))))))))
    refine kl_gU rfl rfl (kl_gU rfl rfl (kl_gF rfl rfl g12 (kl_orT (decide ((0 : Int) < (k : Int)) && decide ((0 : Int) ≤ (litCmp (c.getD ((k : Int) - (1 : Int)).toNat nilLit) (c.getD k nilLit)))) rfl rfl g12 ?_)))
    exact J17 _ (pc 39 rfl (pc 0 rfl (pc 1 rfl (pc 5 rfl (pc 6 rfl (pc 7 rfl (pc 8 rfl (pc 9 rfl (pc 10 rfl (pc 11 rfl (pc 12 rfl (pc 13 rfl (pc 14 rfl (pc 15 rfl (pc 16 rfl (pc 17 rfl (pc 18 rfl (pc 19 rfl (pc 20 rfl (pc 25 rfl (pc 26 rfl pn)))))))))))))))))))))
   ·skip
    have g12p := g12
    try simp only [Bool.not_eq_true', Bool.not_eq_false', decide_eq_true_eq, decide_eq_false_iff_not, Bool.and_eq_true, Bool.or_eq_false_iff, withinB_iff] at g12p
    refine kl_gT rfl rfl g12 (kl_mv rfl (kl_gT rfl rfl g12 (kl_gtr rfl rfl ?_)))
    refine kl_gT rfl rfl g12 (kl_mv rfl (kl_join 9 38 (.bool (decide ((0 : Int) < (k : Int)) && decide ((0 : Int) ≤ (litCmp (c.getD ((k : Int) - (1 : Int)).toNat nilLit) (c.getD k nilLit))))) (pc 0 rfl (pc 1 rfl (pc 5 rfl (pc 6 rfl (pc 7 rfl (pc 8 rfl (pc 9 rfl (pc 10 rfl (pc 11 rfl (pc 12 rfl (pc 13 rfl (pc 14 rfl (pc 15 rfl (pc 16 rfl (pc 17 rfl (pc 18 rfl (pc 19 rfl (pc 20 rfl (pc 25 rfl (pc 26 rfl (pc 27 rfl (pc 28 rfl (pc 29 rfl pn))))))))))))))))))))))) (fun J16 => ?_) ?_))
    ·rcases Bool.eq_false_or_eq_true (decide ((0 : Int) < (k : Int))) with g13 | g13
     ·skip
      have g13p := of_decide_eq_true g13
      refine kl_gT rfl rfl g13 (kl_mv rfl (kl_gT rfl rfl g13 (kl_mv rfl (kl_gT rfl rfl g13 (kl_sub rfl rfl (by omega) ?_)))))
      refine kl_gT rfl rfl g13 (kl_ixQ rfl rfl (by assumption) (by omega) (by omega) (fun p14 a15 => ?_))
      refine kl_gT rfl rfl g13 (kl_ldS rfl (by assumption) rfl ?_)
      refine kl_gT rfl rfl g13 (kl_ldW rfl rfl (kl_gT rfl rfl g13 (kl_callP rfl rfl (litCmp_ok (c.getD ((k : Int) - (1 : Int)).toNat nilLit) (c.getD k nilLit)) ?_)))
      refine kl_gT rfl rfl g13 (kl_geq rfl rfl ?_)
      refine kl_gT rfl rfl g12 (kl_andT rfl rfl g13 ?_)
      exact J16 _ (pc 38 rfl (pc 0 rfl (pc 1 rfl (pc 5 rfl (pc 6 rfl (pc 7 rfl (pc 8 rfl (pc 9 rfl (pc 10 rfl (pc 11 rfl (pc 12 rfl (pc 13 rfl (pc 14 rfl (pc 15 rfl (pc 16 rfl (pc 17 rfl (pc 18 rfl (pc 19 rfl (pc 20 rfl (pc 25 rfl (pc 26 rfl (pc 27 rfl (pc 28 rfl (pc 29 rfl pn))))))))))))))))))))))))
     ·skip
      refine kl_gF rfl rfl g13 (kl_gF rfl rfl g13 (kl_gF rfl rfl g13 (kl_gF rfl rfl g13 (kl_gF rfl rfl g13 (kl_gF rfl rfl g13 (kl_gF rfl rfl g13 (kl_gF rfl rfl g13 (kl_gT rfl rfl g12 ?_))))))))
      refine kl_andF (decide ((0 : Int) ≤ (litCmp (c.getD ((k : Int) - (1 : Int)).toNat nilLit) (c.getD k nilLit)))) rfl rfl g13 ?_
      exact J16 _ (pc 38 rfl (pc 0 rfl (pc 1 rfl (pc 5 rfl (pc 6 rfl (pc 7 rfl (pc 8 rfl (pc 9 rfl (pc 10 rfl (pc 11 rfl (pc 12 rfl (pc 13 rfl (pc 14 rfl (pc 15 rfl (pc 16 rfl (pc 17 rfl (pc 18 rfl (pc 19 rfl (pc 20 rfl (pc 25 rfl (pc 26 rfl (pc 27 rfl (pc 28 rfl (pc 29 rfl pn))))))))))))))))))))))))
    refine kl_orF rfl rfl g12 ?_
    exact J17 _ (pc 39 rfl (pc 0 rfl (pc 1 rfl (pc 5 rfl (pc 6 rfl (pc 7 rfl (pc 8 rfl (pc 9 rfl (pc 10 rfl (pc 11 rfl (pc 12 rfl (pc 13 rfl (pc 14 rfl (pc 15 rfl (pc 16 rfl (pc 17 rfl (pc 18 rfl (pc 19 rfl (pc 20 rfl (pc 25 rfl (pc 26 rfl pn)))))))))))))))))))))
  refine kl_nil (kq_code (kc_cond rfl (fun c18 => ?_) (fun c18 => ?_)))
  ·skip
   have c18r := c18
   try simp only [smpC, decide_eq_true_eq, decide_eq_false_iff_not] at c18
   refine kc_seq (kc_region (kl_as rfl (kl_nil (kq_code (kc_ret (kq_retP rfl rfl (congrArg Value.bool ?_)))))))
   exact cl_noI (k := k) (by omega) (by assumption)
  ·skip
   have c18r := c18
   try simp only [smpC, decide_eq_true_eq, decide_eq_false_iff_not] at c18
   refine kc_skipQ (kq_code (kc_region (kl_inc rfl rfl (by omega) ?_)))
   refine kl_mv rfl (kl_nil (kq_round0 ((k + 1)) (by omega) (⟨by omega, cl_stepI hi3 (by assumption)⟩) (pc 9 rfl pn) (pc 0 rfl (pc 1 rfl (pc 7 rfl (pc 8 rfl pn)))) (.cons _ (List.Sublist.refl _))))
 ·skip
  refine kc_exit (kq_code (kc_seq (kc_region (kl_mv rfl (kl_callP rfl rfl (within_ok n (1 : Int) (4 : Int)) ?_)))))
  refine kl_mv rfl (kl_join 4 47 (.bool ((withinB n (1 : Int) (4 : Int)) && decide ((c.length : Int) ≤ (12 : Int)))) (pc 43 rfl pn) (fun J21 => ?_) ?_)
  ·rcases Bool.eq_false_or_eq_true (withinB n (1 : Int) (4 : Int)) with g19 | g19
   ·skip
    have g19p := g19
    try simp only [Bool.not_eq_true', Bool.not_eq_false', decide_eq_true_eq, decide_eq_false_iff_not, Bool.and_eq_true, Bool.or_eq_false_iff, withinB_iff] at g19p
    refine kl_gT rfl rfl g19 (kl_mv rfl (kl_gT rfl rfl g19 (kl_len rfl (by assumption) (fun l20 => ?_))))
    refine kl_gT rfl rfl g19 (kl_leq rfl rfl ?_)
    refine kl_andT rfl rfl g19 ?_
    exact J21 _ (pc 47 rfl (pc 43 rfl pn))
   ·skip
    refine kl_gF rfl rfl g19 (kl_gF rfl rfl g19 (kl_gF rfl rfl g19 (kl_andF (decide ((c.length : Int) ≤ (12 : Int))) rfl rfl g19 ?_)))
    exact J21 _ (pc 47 rfl (pc 43 rfl pn))
  refine kl_as rfl (kl_nil (kq_code (kc_ret (kq_retP rfl rfl (congrArg Value.bool ?_)))))
  exact cl_yesI (k := k) (by omega) hi3
theorem litsOk_ok {Hmd : Hp} {vmd : Value} {Hmc : Hp} {vmc : Value} {Hc : Hp} {vc : Value} (m : Mod) (c : List Lit) (hmd : Ints Hmd vmd m.doms) (hmc : Cons Hmc vmc m.cons) (hc : Lits Hc vc c) : SpecP Tryz.prog 41 [.agg #[vmd, vmc], vc] [Hmd, Hmc, Hc] (.bool (litsB m c)) := by
 refine spec_of Tryz.func41 rfl rfl rfl (fun B => ?_)
 refine kc_seq (kc_region (kl_box rfl rfl (fun p1 H2 f3 a4 => ?_)))
 refine kl_as rfl (kl_nil (kq_code (kc_seq (kc_region (kl_ldS rfl (by assumption) rfl ?_)))))
 refine kl_callP rfl rfl (validMod_ok m (by assumption) (by assumption)) ?_
 refine kl_mv rfl (kl_join 6 13 (.bool ((validModB m) && (clI (m.doms.length : Int) c))) (pc 4 rfl (pc 7 rfl pn)) (fun J9 => ?_) ?_)
 ·rcases Bool.eq_false_or_eq_true (validModB m) with g5 | g5
  ·skip
   have g5p := g5
   try simp only [Bool.not_eq_true', Bool.not_eq_false', decide_eq_true_eq, decide_eq_false_iff_not, Bool.and_eq_true, Bool.or_eq_false_iff, withinB_iff] at g5p
   refine kl_gT rfl rfl g5 (kl_mv rfl (kl_gT rfl rfl g5 (kl_fd rfl (by assumption) (fun p6 a7 => ?_))))
   refine kl_gT rfl rfl g5 (kl_ld rfl (by assumption) (kl_gT rfl rfl g5 (kl_len rfl (by assumption) (fun l8 => ?_))))
   refine kl_gT rfl rfl g5 (kl_callP rfl rfl (validClI_ok c (m.doms.length : Int) (by first | assumption | omega) (by assumption)) ?_)
   refine kl_andT rfl rfl g5 ?_
   exact J9 _ (pc 13 rfl (pc 4 rfl (pc 7 rfl pn)))
  ·skip
   refine kl_gF rfl rfl g5 (kl_gF rfl rfl g5 (kl_gF rfl rfl g5 (kl_gF rfl rfl g5 (kl_gF rfl rfl g5 (kl_andF (clI (m.doms.length : Int) c) rfl rfl g5 ?_)))))
   exact J9 _ (pc 13 rfl (pc 4 rfl (pc 7 rfl pn)))
 refine kl_as rfl (kl_nil (kq_code (kc_ret (kq_retP rfl rfl (congrArg Value.bool ?_)))))
 rfl
theorem ixf_lit_ok {Hxs : Hp} {vxs : Value} {gp : Nat} {capsp : Array Value} {imp : List Hp} [FnC Tryz.prog gp] (xs : List Lit) (p : Lit → Bool) (hxs : Lits Hxs vxs xs) (hp : ∀ l : Lit, l ∈ xs → SpecP Tryz.prog gp (.agg #[.int .i64 l.var, .int .i64 l.val, .bool l.neg] :: capsp.toList) imp (.bool (p l))) : SpecP Tryz.prog 106 [vxs, .func (.func gp) #[] capsp] (Hxs :: imp) (.int .i64 (indexBy p xs)) := by
 refine spec_of Tryz.func106 rfl rfl rfl (fun B => ?_)
 refine kc_seq (kc_region (kl_as rfl (kl_nil (kq_code (kc_seq (kc_seq (kc_region (kl_mv rfl (kl_len rfl (by assumption) (fun l1 => ?_))))))))))
 refine kl_mv rfl (kl_nil (kq_code (kc_block (kc_loop0 (A := Nat) (fun zz => (zz ≤ xs.length) ∧ ((xs.take zz).any p = false)) (fun zz => xs.length - zz) (fun zz => [(8, .int .i64 (zz : Int))]) (0) (pc 0 rfl (pc 1 rfl (pc 7 rfl pn))) (pc 8 rfl pn) ⟨Nat.zero_le _, by simp⟩ ?_))))
 rintro k hJ4
 obtain ⟨hk2, hi3⟩ : (k ≤ xs.length) ∧ ((xs.take k).any p = false) := hJ4
 change KC _ _ (_) _ _ ([(8, .int .i64 (k : Int))] ++ _)
 refine kc_seq (kc_region (kl_lss rfl rfl ?_))
 refine kl_nil (kq_code (kc_seq (kc_if rfl (fun c5 => ?_) (fun c5 => ?_))))
 ·skip
  refine kc_skipQ (kq_code (kc_seq (kc_block (kc_seq (kc_region (kl_mv rfl (kl_as rfl (kl_nil (kq_code (kc_seq (kc_region (kl_mv rfl ?_))))))))))))
  refine kl_mv rfl (kl_mv rfl (kl_inQ rfl rfl (by assumption) (by omega) (fun p6 a7 => ?_)))
  refine kl_ldS rfl (by assumption) rfl ?_
  refine kl_callP rfl rfl (hp (xs.getD k nilLit) (getD_mem (by omega))) ?_
  refine kl_nil (kq_code (kc_cond rfl (fun c8 => ?_) (fun c8 => ?_)))
  ·skip
   have c8r := c8
   try simp only [smpC, decide_eq_true_eq, decide_eq_false_iff_not] at c8
   refine kc_seq (kc_region (kl_mv rfl (kl_as rfl (kl_nil (kq_code (kc_ret (kq_retP rfl rfl (congrArg (Value.int .i64) ?_))))))))
   exact indexBy_hit (d := nilLit) (by omega) (by assumption) (by assumption)
  ·skip
   have c8r := c8
   try simp only [smpC, decide_eq_true_eq, decide_eq_false_iff_not] at c8
   refine kc_skipQ (kq_code (kc_region (kl_inc rfl rfl (by omega) ?_)))
   refine kl_mv rfl (kl_nil (kq_round0 ((k + 1)) (by omega) (⟨by omega, any_take_step (d := nilLit) (by omega) hi3 (by assumption)⟩) (pc 8 rfl pn) (pc 0 rfl (pc 1 rfl (pc 7 rfl pn))) (List.Sublist.refl _)))
 ·skip
  refine kc_exit (kq_code (kc_seq (kc_region (kl_as rfl (kl_nil (kq_code (kc_ret (kq_retP rfl rfl (congrArg (Value.int .i64) ?_)))))))))
  exact indexBy_none (by omega) (by assumption)
theorem cf_lit_ok {Hxs : Hp} {vxs : Value} {gp : Nat} {capsp : Array Value} {imp : List Hp} [FnC Tryz.prog gp] (xs : List Lit) (p : Lit → Bool) (hxs : Lits Hxs vxs xs) (hp : ∀ l : Lit, l ∈ xs → SpecP Tryz.prog gp (.agg #[.int .i64 l.var, .int .i64 l.val, .bool l.neg] :: capsp.toList) imp (.bool (p l))) : SpecP Tryz.prog 59 [vxs, .func (.func gp) #[] capsp] (Hxs :: imp) (.bool (xs.any p)) := by
 refine spec_of Tryz.func59 rfl rfl rfl (fun B => ?_)
 refine kc_seq (kc_region (kl_as rfl (kl_nil (kq_code (kc_seq (kc_region (kl_mv rfl (kl_mv rfl (kl_callP rfl rfl (ixf_lit_ok xs p (by assumption) hp) ?_)))))))))
 refine kl_geq rfl rfl ?_
 refine kl_as rfl (kl_nil (kq_code (kc_ret (kq_retP rfl rfl (congrArg Value.bool ?_)))))
 exact indexBy_any p xs
theorem allTrue1_ok {Hx : Hp} {vx : Value} {Hpx : Hp} {ptrpx : Value} (l : Lit) (x : List Int) (h0 : 0 ≤ l.val) (h1 : 0 ≤ l.var ∧ l.var < (x.length : Int)) (h2 : 0 ≤ x.getD l.var.toNat 0) (hx : Ints Hx vx x) (apx : At Hpx ptrpx [vx]) : SpecP Tryz.prog 96 [.agg #[.int .i64 l.var, .int .i64 l.val, .bool l.neg], ptrpx] [Hx, Hpx] (.bool (!(hasB (truesI l) (x.getD l.var.toNat 0)))) := by
 refine spec_of Tryz.func96 rfl rfl rfl (fun B => ?_)
 refine kc_seq (kc_region (kl_box rfl rfl (fun p1 H2 f3 a4 => ?_)))
 refine kl_as rfl (kl_nil (kq_code (kc_seq (kc_tree (fun i => ([7] : List Nat).contains i) [] (by kernel_rfl) ?_))))
 refine kt_q 0 (List.nil_sublist _) rfl (by kernel_rfl) (kl_ldS rfl (by assumption) rfl ?_)
 refine kl_nil (kq_q (kt_q 2 (List.nil_sublist _) rfl (by kernel_rfl) (kl_ld rfl (by assumption) (kl_nil (kq_q (kt_q 3 (List.nil_sublist _) rfl (by kernel_rfl) (kl_fd rfl (by assumption) (fun p5 a6 => ?_))))))))
 refine kl_nil (kq_q (kt_q 4 (List.nil_sublist _) rfl (by kernel_rfl) (kl_ld rfl (by assumption) (kl_nil (kq_q (kt_q 5 (List.nil_sublist _) rfl (by kernel_rfl) (kl_ixI rfl rfl (by assumption) (by omega) (by omega) (fun p7 a8 => ?_))))))))
 refine kl_nil (kq_q (kt_q 6 (List.nil_sublist _) rfl (by kernel_rfl) (kl_ld rfl (by assumption) (kl_nil (kq_q (kt_a 1 rfl (by kernel_rfl) (kl_callP rfl rfl (truesL_ok l h0) ?_)))))))
 refine kl_nil (kq_a (List.nil_sublist _) (kt_a 7 rfl (by kernel_rfl) (kl_callP rfl rfl (has_ok (truesI l) (x.getD l.var.toNat 0) h2) ?_)))
 refine kl_nil (kq_x rfl (kt_q 8 (List.nil_sublist _) rfl (by kernel_rfl) (kl_not rfl (kl_nil (kq_q (kt_q 9 (List.nil_sublist _) rfl (by kernel_rfl) (kl_as rfl (kl_nil (kq_q (kt_end (by kernel_rfl) ?_))))))))))
 refine kq_code (kc_ret (kq_retP rfl rfl (congrArg Value.bool ?_)))
 rfl
theorem allTrueI_ok {Hls : Hp} {vls : Value} {Hx : Hp} {vx : Value} (ls : List Lit) (x : List Int) (hl : ∀ l ∈ ls, (0 ≤ l.var ∧ l.var < (x.length : Int)) ∧ (0 ≤ l.val ∧ l.val ≤ 5)) (hX : Vals x) (hls : Lits Hls vls ls) (hx : Ints Hx vx x) : SpecP Tryz.prog 45 [vls, vx] [Hls, Hx] (.bool (allT ls x)) := by
 refine spec_of Tryz.func45 rfl rfl rfl (fun B => ?_)
 refine kc_seq (kc_region (kl_box rfl (Sl.cells (by assumption)) (fun p1 H2 f3 a4 => ?_)))
 refine kl_as rfl (kl_nil (kq_code (kc_seq (kc_region (kl_mv rfl (kl_mkf rfl ?_))))))
 refine kl_callP rfl rfl (cf_lit_ok ls (fun x4 => !(hasB (truesI x4) (x.getD x4.var.toNat 0))) (by assumption) (fun x4 hmx4 => allTrue1_ok x4 x (hl _ hmx4).2.1 (hl _ hmx4).1 (hX.at (by have := (hl _ hmx4).1; omega)).1 (by assumption) (by assumption))) ?_
 refine kl_not rfl (kl_as rfl (kl_nil (kq_code (kc_ret (kq_retP rfl rfl (congrArg Value.bool ?_))))))
 exact allT_I (fun l h => (hl l h).2) (fun l h => by have h9 := hX.at (k := l.var.toNat) (by have := (hl l h).1; omega); omega)
end Go.Proofs.YtiilanckbocifaaGreat
