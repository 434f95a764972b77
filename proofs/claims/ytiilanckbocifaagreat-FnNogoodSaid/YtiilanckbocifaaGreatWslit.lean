/- Walks of functions of the program: each returns what the plain function gives. Conditions: those that each statement names. -/
import Derived.Test.YtiilanckbocifaaGreatWspecv
import Derived.Test.YtiilanckbocifaaGreatPureA
namespace Go.Proofs.YtiilanckbocifaaGreat
open Go
set_option linter.unusedSimpArgs false
set_option linter.unusedVariables false
theorem litLess_ok (a : Lit) (b : Lit) : SpecP Tryz.prog 129 [.agg #[.int .i64 a.var, .int .i64 a.val, .bool a.neg], .agg #[.int .i64 b.var, .int .i64 b.val, .bool b.neg]] [] (.bool (litLt a b)) := by
 refine spec_of Tryz.func129 rfl rfl rfl (fun B => ?_)
 refine kc_seq (kc_region (kl_box rfl rfl (fun p1 H2 f3 a4 => ?_)))
 refine kl_box rfl rfl (fun p5 H6 f7 a8 => ?_)
 refine kl_as rfl (kl_nil (kq_code (kc_seq (kc_seq (kc_region (kl_fd rfl (by assumption) (fun p9 a10 => ?_)))))))
 refine kl_ld rfl (by assumption) (kl_fd rfl (by assumption) (fun p11 a12 => ?_))
 refine kl_ld rfl (by assumption) (kl_neq rfl rfl ?_)
 refine kl_nil (kq_code (kc_if rfl (fun c13 => ?_) (fun c13 => ?_)))
 ·skip
  refine kc_seq (kc_region (kl_fd rfl (by assumption) (fun p14 a15 => ?_)))
  refine kl_ld rfl (by assumption) (kl_fd rfl (by assumption) (fun p16 a17 => ?_))
  refine kl_ld rfl (by assumption) (kl_lss rfl rfl ?_)
  refine kl_as rfl (kl_nil (kq_code (kc_ret (kq_retP rfl rfl (congrArg Value.bool ?_)))))
  exact litLt_1 (by assumption)
 ·skip
  refine kc_skipQ (kq_code (kc_seq (kc_seq (kc_region (kl_fd rfl (by assumption) (fun p18 a19 => ?_))))))
  refine kl_ld rfl (by assumption) (kl_fd rfl (by assumption) (fun p20 a21 => ?_))
  refine kl_ld rfl (by assumption) (kl_neq rfl rfl ?_)
  refine kl_nil (kq_code (kc_if rfl (fun c22 => ?_) (fun c22 => ?_)))
  ·skip
   refine kc_seq (kc_region (kl_fd rfl (by assumption) (fun p23 a24 => ?_)))
   refine kl_ld rfl (by assumption) (kl_fd rfl (by assumption) (fun p25 a26 => ?_))
   refine kl_ld rfl (by assumption) (kl_lss rfl rfl ?_)
   refine kl_as rfl (kl_nil (kq_code (kc_ret (kq_retP rfl rfl (congrArg Value.bool ?_)))))
   exact litLt_2 (by assumption) (by assumption)
  ·skip
   refine kc_skipQ (kq_code (kc_seq (kc_region (kl_fd rfl (by assumption) (fun p27 a28 => ?_)))))
   refine kl_ld rfl (by assumption) (kl_not rfl (kl_mv rfl (kl_join 3 31 (.bool (!a.neg && b.neg)) (pc 4 rfl (pc 28 rfl pn)) (fun J32 => ?_) ?_)))
   ·rcases Bool.eq_false_or_eq_true (!a.neg) with g29 | g29
    ·skip
     have g29p := g29
     try simp only [Bool.not_eq_true', Bool.not_eq_false', decide_eq_true_eq, decide_eq_false_iff_not, Bool.and_eq_true, Bool.or_eq_false_iff, withinB_iff] at g29p
     refine kl_gT rfl rfl g29 (kl_fd rfl (by assumption) (fun p30 a31 => ?_))
     refine kl_gT rfl rfl g29 (kl_ld rfl (by assumption) (kl_andT rfl rfl g29 ?_))
     exact J32 _ (pc 31 rfl (pc 4 rfl (pc 28 rfl pn)))
    ·skip
     refine kl_gF rfl rfl g29 (kl_gF rfl rfl g29 (kl_andF b.neg rfl rfl g29 ?_))
     exact J32 _ (pc 31 rfl (pc 4 rfl (pc 28 rfl pn)))
   refine kl_as rfl (kl_nil (kq_code (kc_ret (kq_retP rfl rfl (congrArg Value.bool ?_)))))
   exact litLt_3 (by assumption) (by assumption)
theorem validClS_ok {Hc : Hp} {vc : Value} (c : List Lit) (n : Int) (hn : -9223372036854775807 ≤ n ∧ n ≤ 9223372036854775807) (hc : Lits Hc vc c) : SpecP Tryz.prog 97 [vc, .int .i64 n] [Hc] (.bool (clS n c)) := by
 refine spec_of Tryz.func97 rfl rfl rfl (fun B => ?_)
 refine kc_seq (kc_region (kl_as rfl (kl_nil (kq_code (kc_seq (kc_seq (kc_region (kl_as rfl (kl_nil (kq_code (kc_block (kc_loop0 (A := Nat) (fun zz => (zz ≤ c.length) ∧ (clTo n c zz = true)) (fun zz => c.length - zz) (fun zz => [(5, .int .i64 (zz : Int))]) (0) (pc 0 rfl (pc 1 rfl pn)) (pc 5 rfl pn) ⟨Nat.zero_le _, rfl⟩ ?_))))))))))))
 rintro k hJ3
 obtain ⟨hk1, hi2⟩ : (k ≤ c.length) ∧ (clTo n c k = true) := hJ3
 change KC _ _ (_) _ _ ([(5, .int .i64 (k : Int))] ++ _)
 refine kc_seq (kc_seq (kc_region (kl_mv rfl (kl_mv rfl (kl_len rfl (by assumption) (fun l4 => ?_))))))
 refine kl_lss rfl rfl ?_
 refine kl_nil (kq_code (kc_if rfl (fun c5 => ?_) (fun c5 => ?_)))
 ·skip
  refine kc_skipQ (kq_code (kc_seq (kc_block (kc_seq (kc_draw 35 [true, true, true, true, true, true, true, false, true, true, true, true, true, true, true, false, true, true, true, true, true, true, true, true, true, true, true, true, true, true, true, false, true, true, true] (by kernel_rfl) (by kernel_rfl) ?_)))))
  refine kl_mv rfl (kl_mv rfl (kl_inQ rfl rfl (by assumption) (by omega) (fun p6 a7 => ?_)))
  refine kl_fd rfl (by assumption) (fun p8 a9 => ?_)
  refine kl_ld rfl (by assumption) (kl_mv rfl (kl_sub rfl rfl (by omega) ?_))
  refine kl_callP rfl rfl (inRange_ok ((c.getD k nilLit).var) (0 : Int) (n - (1 : Int))) ?_
  refine kl_not rfl (kl_mv rfl (kl_join 8 29 (.bool (!(withinB ((c.getD k nilLit).var) (0 : Int) (n - (1 : Int))) || !(withinB ((c.getD k nilLit).val) (0 : Int) (5 : Int)))) (pc 0 rfl (pc 1 rfl (pc 5 rfl (pc 6 rfl (pc 7 rfl (pc 8 rfl (pc 9 rfl (pc 12 rfl (pc 13 rfl (pc 14 rfl (pc 15 rfl (pc 16 rfl (pc 17 rfl (pc 18 rfl (pc 19 rfl (pc 20 rfl (pc 21 rfl pn))))))))))))))))) (fun J15 => ?_) ?_))
  ·rcases Bool.eq_false_or_eq_true (!(withinB ((c.getD k nilLit).var) (0 : Int) (n - (1 : Int)))) with g10 | g10
   ·skip
    refine kl_gF rfl rfl g10 (kl_gF rfl rfl g10 (kl_gF rfl rfl g10 (kl_gF rfl rfl g10 (kl_gF rfl rfl g10 (kl_gF rfl rfl g10 (kl_gF rfl rfl g10 (kl_orT (!(withinB ((c.getD k nilLit).val) (0 : Int) (5 : Int))) rfl rfl g10 ?_)))))))
    exact J15 _ (pc 29 rfl (pc 0 rfl (pc 1 rfl (pc 5 rfl (pc 6 rfl (pc 7 rfl (pc 8 rfl (pc 9 rfl (pc 12 rfl (pc 13 rfl (pc 14 rfl (pc 15 rfl (pc 16 rfl (pc 17 rfl (pc 18 rfl (pc 19 rfl (pc 20 rfl (pc 21 rfl pn))))))))))))))))))
   ·skip
    have g10p := g10
    try simp only [Bool.not_eq_true', Bool.not_eq_false', decide_eq_true_eq, decide_eq_false_iff_not, Bool.and_eq_true, Bool.or_eq_false_iff, withinB_iff] at g10p
    refine kl_gT rfl rfl g10 (kl_mv rfl (kl_gT rfl rfl g10 (kl_mv rfl (kl_gT rfl rfl g10 (kl_inQ rfl rfl (by assumption) (by omega) (fun p11 a12 => ?_))))))
    refine kl_gT rfl rfl g10 (kl_fd rfl (by assumption) (fun p13 a14 => ?_))
    refine kl_gT rfl rfl g10 (kl_ld rfl (by assumption) (kl_gT rfl rfl g10 (kl_callP rfl rfl (inRange_ok ((c.getD k nilLit).val) (0 : Int) (5 : Int)) ?_)))
    refine kl_gT rfl rfl g10 (kl_not rfl (kl_orF rfl rfl g10 ?_))
    exact J15 _ (pc 29 rfl (pc 0 rfl (pc 1 rfl (pc 5 rfl (pc 6 rfl (pc 7 rfl (pc 8 rfl (pc 9 rfl (pc 12 rfl (pc 13 rfl (pc 14 rfl (pc 15 rfl (pc 16 rfl (pc 17 rfl (pc 18 rfl (pc 19 rfl (pc 20 rfl (pc 21 rfl pn))))))))))))))))))
  refine kl_mv rfl (kl_join 16 46 (.bool ((!(withinB ((c.getD k nilLit).var) (0 : Int) (n - (1 : Int))) || !(withinB ((c.getD k nilLit).val) (0 : Int) (5 : Int))) || (decide ((0 : Int) < (k : Int)) && !(litLt (c.getD ((k : Int) - (1 : Int)).toNat nilLit) (c.getD k nilLit))))) (pc 0 rfl (pc 1 rfl (pc 5 rfl (pc 6 rfl (pc 7 rfl (pc 8 rfl (pc 9 rfl (pc 12 rfl (pc 13 rfl (pc 14 rfl (pc 15 rfl (pc 16 rfl (pc 17 rfl (pc 18 rfl (pc 19 rfl (pc 20 rfl (pc 21 rfl (pc 29 rfl (pc 30 rfl pn))))))))))))))))))) (fun J23 => ?_) ?_)
  ·rcases Bool.eq_false_or_eq_true (!(withinB ((c.getD k nilLit).var) (0 : Int) (n - (1 : Int))) || !(withinB ((c.getD k nilLit).val) (0 : Int) (5 : Int))) with g16 | g16
   ·skip
    refine kl_gF rfl rfl g16 (kl_gF rfl rfl g16 (kl_gF rfl rfl g16 (kl_gU rfl rfl (kl_gU rfl rfl (kl_gU rfl rfl (kl_gU rfl rfl (kl_gU rfl rfl (kl_gU rfl rfl ?_))))))))
    refine kl_gU rfl rfl (kl_gU rfl rfl (kl_gU rfl rfl (kl_gU rfl rfl (kl_gU rfl rfl (kl_gF rfl rfl g16 (kl_orT (decide ((0 : Int) < (k : Int)) && !(litLt (c.getD ((k : Int) - (1 : Int)).toNat nilLit) (c.getD k nilLit))) rfl rfl g16 ?_))))))
    exact J23 _ (pc 46 rfl (pc 0 rfl (pc 1 rfl (pc 5 rfl (pc 6 rfl (pc 7 rfl (pc 8 rfl (pc 9 rfl (pc 12 rfl (pc 13 rfl (pc 14 rfl (pc 15 rfl (pc 16 rfl (pc 17 rfl (pc 18 rfl (pc 19 rfl (pc 20 rfl (pc 21 rfl (pc 29 rfl (pc 30 rfl pn))))))))))))))))))))
   ·skip
    have g16p := g16
    try simp only [Bool.not_eq_true', Bool.not_eq_false', decide_eq_true_eq, decide_eq_false_iff_not, Bool.and_eq_true, Bool.or_eq_false_iff, withinB_iff] at g16p
    refine kl_gT rfl rfl g16 (kl_mv rfl (kl_gT rfl rfl g16 (kl_gtr rfl rfl ?_)))
    refine kl_gT rfl rfl g16 (kl_mv rfl (kl_join 12 45 (.bool (decide ((0 : Int) < (k : Int)) && !(litLt (c.getD ((k : Int) - (1 : Int)).toNat nilLit) (c.getD k nilLit)))) (pc 0 rfl (pc 1 rfl (pc 5 rfl (pc 6 rfl (pc 7 rfl (pc 8 rfl (pc 9 rfl (pc 12 rfl (pc 13 rfl (pc 14 rfl (pc 15 rfl (pc 16 rfl (pc 17 rfl (pc 18 rfl (pc 19 rfl (pc 20 rfl (pc 21 rfl (pc 29 rfl (pc 30 rfl (pc 31 rfl (pc 32 rfl (pc 33 rfl pn)))))))))))))))))))))) (fun J22 => ?_) ?_))
    ·rcases Bool.eq_false_or_eq_true (decide ((0 : Int) < (k : Int))) with g17 | g17
     ·skip
      have g17p := of_decide_eq_true g17
      refine kl_gT rfl rfl g17 (kl_mv rfl (kl_gT rfl rfl g17 (kl_mv rfl (kl_gT rfl rfl g17 (kl_sub rfl rfl (by omega) ?_)))))
      refine kl_gT rfl rfl g17 (kl_ixQ rfl rfl (by assumption) (by omega) (by omega) (fun p18 a19 => ?_))
      refine kl_gT rfl rfl g17 (kl_ldS rfl (by assumption) rfl ?_)
      refine kl_gT rfl rfl g17 (kl_mv rfl (kl_gT rfl rfl g17 (kl_mv rfl (kl_gT rfl rfl g17 (kl_inQ rfl rfl (by assumption) (by omega) (fun p20 a21 => ?_))))))
      refine kl_gT rfl rfl g17 (kl_ldS rfl (by assumption) rfl ?_)
      refine kl_gT rfl rfl g17 (kl_callP rfl rfl (litLess_ok (c.getD ((k : Int) - (1 : Int)).toNat nilLit) (c.getD k nilLit)) ?_)
      refine kl_gT rfl rfl g17 (kl_not rfl (kl_gT rfl rfl g16 (kl_andT rfl rfl g17 ?_)))
      exact J22 _ (pc 45 rfl (pc 0 rfl (pc 1 rfl (pc 5 rfl (pc 6 rfl (pc 7 rfl (pc 8 rfl (pc 9 rfl (pc 12 rfl (pc 13 rfl (pc 14 rfl (pc 15 rfl (pc 16 rfl (pc 17 rfl (pc 18 rfl (pc 19 rfl (pc 20 rfl (pc 21 rfl (pc 29 rfl (pc 30 rfl (pc 31 rfl (pc 32 rfl (pc 33 rfl pn)))))))))))))))))))))))
     ·skip
      refine kl_gF rfl rfl g17 (kl_gF rfl rfl g17 (kl_gF rfl rfl g17 (kl_gF rfl rfl g17 (kl_gF rfl rfl g17 (kl_gF rfl rfl g17 (kl_gF rfl rfl g17 (kl_gF rfl rfl g17 (kl_gF rfl rfl g17 ?_))))))))
      refine kl_gF rfl rfl g17 (kl_gF rfl rfl g17 (kl_gT rfl rfl g16 (kl_andF (!(litLt (c.getD ((k : Int) - (1 : Int)).toNat nilLit) (c.getD k nilLit))) rfl rfl g17 ?_)))
      exact J22 _ (pc 45 rfl (pc 0 rfl (pc 1 rfl (pc 5 rfl (pc 6 rfl (pc 7 rfl (pc 8 rfl (pc 9 rfl (pc 12 rfl (pc 13 rfl (pc 14 rfl (pc 15 rfl (pc 16 rfl (pc 17 rfl (pc 18 rfl (pc 19 rfl (pc 20 rfl (pc 21 rfl (pc 29 rfl (pc 30 rfl (pc 31 rfl (pc 32 rfl (pc 33 rfl pn)))))))))))))))))))))))
    refine kl_orF rfl rfl g16 ?_
    exact J23 _ (pc 46 rfl (pc 0 rfl (pc 1 rfl (pc 5 rfl (pc 6 rfl (pc 7 rfl (pc 8 rfl (pc 9 rfl (pc 12 rfl (pc 13 rfl (pc 14 rfl (pc 15 rfl (pc 16 rfl (pc 17 rfl (pc 18 rfl (pc 19 rfl (pc 20 rfl (pc 21 rfl (pc 29 rfl (pc 30 rfl pn))))))))))))))))))))
  refine kl_nil (kq_code (kc_cond rfl (fun c24 => ?_) (fun c24 => ?_)))
  ·skip
   have c24r := c24
   try simp only [smpC, decide_eq_true_eq, decide_eq_false_iff_not] at c24
   refine kc_seq (kc_region (kl_as rfl (kl_nil (kq_code (kc_ret (kq_retP rfl rfl (congrArg Value.bool ?_)))))))
   exact cl_noS (k := k) (by omega) (by assumption)
  ·skip
   have c24r := c24
   try simp only [smpC, decide_eq_true_eq, decide_eq_false_iff_not] at c24
   refine kc_skipQ (kq_code (kc_region (kl_mv rfl (kl_inc rfl rfl (by omega) ?_))))
   refine kl_as rfl (kl_nil (kq_round0 ((k + 1)) (by omega) (⟨by omega, cl_step hi2 (by assumption)⟩) (pc 5 rfl pn) (pc 0 rfl (pc 1 rfl pn)) (List.Sublist.refl _)))
 ·skip
  refine kc_exit (kq_code (kc_seq (kc_region (kl_mv rfl (kl_len rfl (by assumption) (fun l25 => ?_))))))
  refine kl_leq rfl rfl ?_
  refine kl_as rfl (kl_nil (kq_code (kc_ret (kq_retP rfl rfl (congrArg Value.bool ?_)))))
  exact cl_yesS (k := k) (by omega) hi2
theorem validConj_ok {Hmd : Hp} {vmd : Value} {Hmc : Hp} {vmc : Value} {Hc : Hp} {vc : Value} (m : Mod) (c : List Lit) (hmd : Ints Hmd vmd m.doms) (hmc : Cons Hmc vmc m.cons) (hc : Lits Hc vc c) : SpecP Tryz.prog 46 [.agg #[vmd, vmc], vc] [Hmd, Hmc, Hc] (.bool (litsB m c)) := by
 refine spec_of Tryz.func46 rfl rfl rfl (fun B => ?_)
 refine kc_seq (kc_region (kl_box rfl rfl (fun p1 H2 f3 a4 => ?_)))
 refine kl_as rfl (kl_nil (kq_code (kc_seq (kc_region (kl_ldS rfl (by assumption) rfl ?_)))))
 refine kl_callP rfl rfl (svalidMod_ok m (by assumption) (by assumption)) ?_
 refine kl_mv rfl (kl_join 6 13 (.bool ((validModB m) && (clS (m.doms.length : Int) c))) (pc 4 rfl (pc 7 rfl pn)) (fun J9 => ?_) ?_)
 ·rcases Bool.eq_false_or_eq_true (validModB m) with g5 | g5
  ·skip
   have g5p := g5
   try simp only [Bool.not_eq_true', Bool.not_eq_false', decide_eq_true_eq, decide_eq_false_iff_not, Bool.and_eq_true, Bool.or_eq_false_iff, withinB_iff] at g5p
   refine kl_gT rfl rfl g5 (kl_mv rfl (kl_gT rfl rfl g5 (kl_fd rfl (by assumption) (fun p6 a7 => ?_))))
   refine kl_gT rfl rfl g5 (kl_ld rfl (by assumption) (kl_gT rfl rfl g5 (kl_len rfl (by assumption) (fun l8 => ?_))))
   refine kl_gT rfl rfl g5 (kl_callP rfl rfl (validClS_ok c (m.doms.length : Int) (by first | assumption | omega) (by assumption)) ?_)
   refine kl_andT rfl rfl g5 ?_
   exact J9 _ (pc 13 rfl (pc 4 rfl (pc 7 rfl pn)))
  ·skip
   refine kl_gF rfl rfl g5 (kl_gF rfl rfl g5 (kl_gF rfl rfl g5 (kl_gF rfl rfl g5 (kl_gF rfl rfl g5 (kl_andF (clS (m.doms.length : Int) c) rfl rfl g5 ?_)))))
   exact J9 _ (pc 13 rfl (pc 4 rfl (pc 7 rfl pn)))
 refine kl_as rfl (kl_nil (kq_code (kc_ret (kq_retP rfl rfl (congrArg Value.bool ?_)))))
 exact litsB_S m c
theorem allTrueS_ok {Hls : Hp} {vls : Value} {Hx : Hp} {vx : Value} (ls : List Lit) (x : List Int) (hl : ∀ l ∈ ls, (0 ≤ l.var ∧ l.var < (x.length : Int)) ∧ (0 ≤ l.val ∧ l.val ≤ 5)) (hX : Vals x) (hls : Lits Hls vls ls) (hx : Ints Hx vx x) : SpecP Tryz.prog 48 [vls, vx] [Hls, Hx] (.bool (allT ls x)) := by
 refine spec_of Tryz.func48 rfl rfl rfl (fun B => ?_)
 refine kc_seq (kc_region (kl_as rfl (kl_nil (kq_code (kc_seq (kc_seq (kc_region (kl_as rfl (kl_nil (kq_code (kc_block (kc_loop0 (A := Nat) (fun zz => (zz ≤ ls.length) ∧ (allTo ls x zz = true)) (fun zz => ls.length - zz) (fun zz => [(5, .int .i64 (zz : Int))]) (0) (pc 0 rfl (pc 1 rfl pn)) (pc 5 rfl pn) ⟨Nat.zero_le _, rfl⟩ ?_))))))))))))
 rintro k hJ3
 obtain ⟨hk1, hi2⟩ : (k ≤ ls.length) ∧ (allTo ls x k = true) := hJ3
 change KC _ _ (_) _ _ ([(5, .int .i64 (k : Int))] ++ _)
 refine kc_seq (kc_seq (kc_region (kl_mv rfl (kl_mv rfl (kl_len rfl (by assumption) (fun l4 => ?_))))))
 refine kl_lss rfl rfl ?_
 refine kl_nil (kq_code (kc_if rfl (fun c5 => ?_) (fun c5 => ?_)))
 ·skip
  have hla := hl _ (getD_mem (d := nilLit) (by omega : k < ls.length))
  refine kc_skipQ (kq_code (kc_seq (kc_block (kc_seq (kc_draw 20 [true, true, true, true, true, true, true, true, true, true, true, true, true, true, true, true, true, true, true, true] (by kernel_rfl) (by kernel_rfl) ?_)))))
  refine kl_mv rfl (kl_mv rfl (kl_mv rfl (kl_inQ rfl rfl (by assumption) (by omega) (fun p6 a7 => ?_))))
  refine kl_fd rfl (by assumption) (fun p8 a9 => ?_)
  refine kl_ld rfl (by assumption) (kl_ixI rfl rfl (by assumption) (by omega) (by omega) (fun p10 a11 => ?_))
  refine kl_ld rfl (by assumption) (kl_mv rfl (kl_mv rfl (kl_inQ rfl rfl (by assumption) (by omega) (fun p12 a13 => ?_))))
  refine kl_fd rfl (by assumption) (fun p14 a15 => ?_)
  refine kl_ld rfl (by assumption) (kl_eql rfl rfl ?_)
  refine kl_mv rfl (kl_mv rfl (kl_inQ rfl rfl (by assumption) (by omega) (fun p16 a17 => ?_)))
  refine kl_fd rfl (by assumption) (fun p18 a19 => ?_)
  refine kl_ld rfl (by assumption) (kl_beq rfl rfl ?_)
  refine kl_nil (kq_code (kc_cond rfl (fun c20 => ?_) (fun c20 => ?_)))
  ·skip
   have c20r := c20
   try simp only [smpC, decide_eq_true_eq, decide_eq_false_iff_not] at c20
   refine kc_seq (kc_region (kl_as rfl (kl_nil (kq_code (kc_ret (kq_retP rfl rfl (congrArg Value.bool ?_)))))))
   exact allTo_no (k := k) (by omega) (by assumption)
  ·skip
   have c20r := c20
   try simp only [smpC, decide_eq_true_eq, decide_eq_false_iff_not] at c20
   refine kc_skipQ (kq_code (kc_region (kl_mv rfl (kl_inc rfl rfl (by omega) ?_))))
   refine kl_as rfl (kl_nil (kq_round0 ((k + 1)) (by omega) (⟨by omega, allTo_step (by omega) hi2 (by assumption)⟩) (pc 5 rfl pn) (pc 0 rfl (pc 1 rfl pn)) (List.Sublist.refl _)))
 ·skip
  refine kc_exit (kq_code (kc_seq (kc_region (kl_as rfl (kl_nil (kq_code (kc_ret (kq_retP rfl rfl (congrArg Value.bool ?_)))))))))
  exact allTo_end (k := k) (by omega) hi2
end Go.Proofs.YtiilanckbocifaaGreat
