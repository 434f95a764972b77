/- Walks of functions of the program: each returns what the plain function gives. Conditions: those that each statement names. -/
import Derived.Test.YtiilanckbocifaaWfl
import Derived.Test.YtiilanckbocifaaPureL
namespace Go.Proofs.Ytiilanckbocifaa
open Go
set_option linter.unusedSimpArgs false
set_option linter.unusedVariables false
theorem equalLists_ok {Ha : Hp} {va : Value} {Hb : Hp} {vb : Value} (a : List (List Int)) (b : List (List Int)) (ha : Rows Ha va a) (hb : Rows Hb vb b) : SpecP Try.prog 66 [va, vb] [Ha, Hb] (.bool (decide (a = b))) := by
 refine spec_of Try.func66 rfl rfl rfl (fun B => ?_)
 refine kc_seq (kc_region (kl_as rfl (kl_nil (kq_code (kc_seq (kc_seq (kc_region (kl_mv rfl (kl_len rfl (by assumption) (fun l1 => ?_))))))))))
 refine kl_mv rfl (kl_len rfl (by assumption) (fun l2 => ?_))
 refine kl_neq rfl rfl ?_
 refine kl_nil (kq_code (kc_if rfl (fun c3 => ?_) (fun c3 => ?_)))
 ·skip
  refine kc_seq (kc_region (kl_as rfl (kl_nil (kq_code (kc_ret (kq_retP rfl rfl (congrArg Value.bool ?_)))))))
  exact eq_len (by assumption)
 ·skip
  refine kc_skipQ (kq_code (kc_seq (kc_seq (kc_region (kl_as rfl (kl_nil (kq_code (kc_block (kc_loop0 (A := Nat) (fun zz => (zz ≤ a.length) ∧ (a.take zz = b.take zz)) (fun zz => a.length - zz) (fun zz => [(5, .int .i64 (zz : Int))]) (0) (pc 0 rfl (pc 1 rfl pn)) (pc 5 rfl pn) ⟨Nat.zero_le _, by simp⟩ ?_)))))))))
  rintro k hJ6
  obtain ⟨hk4, hi5⟩ : (k ≤ a.length) ∧ (a.take k = b.take k) := hJ6
  change KC _ _ (_) _ _ ([(5, .int .i64 (k : Int))] ++ _)
  refine kc_seq (kc_seq (kc_region (kl_mv rfl (kl_mv rfl (kl_len rfl (by assumption) (fun l7 => ?_))))))
  refine kl_lss rfl rfl ?_
  refine kl_nil (kq_code (kc_if rfl (fun c8 => ?_) (fun c8 => ?_)))
  ·skip
   refine kc_skipQ (kq_code (kc_seq (kc_block (kc_seq (kc_draw 10 [true, true, true, true, true, true, true, true, false, true] (by kernel_rfl) (by kernel_rfl) ?_)))))
   refine kl_mv rfl (kl_mv rfl (kl_inS rfl rfl (by assumption) (by omega) (fun p9 u11 h12 a10 => ?_)))
   refine kl_ld rfl (by assumption) (kl_mv rfl (kl_mv rfl (kl_inS rfl rfl (by assumption) (by omega) (fun p13 u15 h16 a14 => ?_))))
   refine kl_ld rfl (by assumption) (kl_callP rfl rfl (equalInts_ok (a.getD k []) (b.getD k []) (by assumption) (by assumption)) ?_)
   refine kl_not rfl (kl_nil (kq_code (kc_cond rfl (fun c17 => ?_) (fun c17 => ?_))))
   ·skip
    have c17r := c17
    try simp only [smpC, decide_eq_true_eq, decide_eq_false_iff_not] at c17
    refine kc_seq (kc_region (kl_as rfl (kl_nil (kq_code (kc_ret (kq_retP rfl rfl (congrArg Value.bool ?_)))))))
    exact eq_at (k := k) [] (by simpa using by assumption)
   ·skip
    have c17r := c17
    try simp only [smpC, decide_eq_true_eq, decide_eq_false_iff_not] at c17
    refine kc_skipQ (kq_code (kc_region (kl_mv rfl (kl_inc rfl rfl (by omega) ?_))))
    refine kl_as rfl (kl_nil (kq_round0 ((k + 1)) (by omega) (⟨by omega, eq_step [] (by omega) (by omega) hi5 (by first | exact Decidable.not_not.1 (by assumption) | (simpa using by assumption))⟩) (pc 5 rfl pn) (pc 0 rfl (pc 1 rfl pn)) (List.Sublist.refl _)))
  ·skip
   refine kc_exit (kq_code (kc_seq (kc_region (kl_as rfl (kl_nil (kq_code (kc_ret (kq_retP rfl rfl (congrArg Value.bool ?_)))))))))
   exact eq_end (k := k) (by omega) (by omega) (by assumption)
theorem equalCon_ok {Hav : Hp} {vav : Value} {Haa : Hp} {vaa : Value} {Har : Hp} {var : Value} {Hbv : Hp} {vbv : Value} {Hba : Hp} {vba : Value} {Hbr : Hp} {vbr : Value} (a : Con) (b : Con) (hav : Ints Hav vav a.vars) (haa : Ints Haa vaa a.args) (har : Rows Har var a.rows) (hbv : Ints Hbv vbv b.vars) (hba : Ints Hba vba b.args) (hbr : Rows Hbr vbr b.rows) : SpecP Try.prog 36 [.agg #[.int .i64 a.kind, vav, vaa, .int .i64 a.bound, var], .agg #[.int .i64 b.kind, vbv, vba, .int .i64 b.bound, vbr]] [Hav, Haa, Har, Hbv, Hba, Hbr] (.bool (decide (a = b))) := by
 refine spec_of Try.func36 rfl rfl rfl (fun B => ?_)
 refine kc_seq (kc_region (kl_box rfl rfl (fun p1 H2 f3 a4 => ?_)))
 refine kl_box rfl rfl (fun p5 H6 f7 a8 => ?_)
 refine kl_as rfl (kl_nil (kq_code (kc_seq (kc_region (kl_fd rfl (by assumption) (fun p9 a10 => ?_))))))
 refine kl_ld rfl (by assumption) (kl_fd rfl (by assumption) (fun p11 a12 => ?_))
 refine kl_ld rfl (by assumption) (kl_eql rfl rfl ?_)
 refine kl_mv rfl (kl_join 6 16 (.bool (decide (a.kind = b.kind) && (decide (a.vars = b.vars)))) (pc 2 rfl (pc 3 rfl (pc 4 rfl (pc 10 rfl pn)))) (fun J18 => ?_) ?_)
 ·rcases Bool.eq_false_or_eq_true (decide (a.kind = b.kind)) with g13 | g13
  ·skip
   have g13p := of_decide_eq_true g13
   refine kl_gT rfl rfl g13 (kl_fd rfl (by assumption) (fun p14 a15 => ?_))
   refine kl_gT rfl rfl g13 (kl_ld rfl (by assumption) (kl_gT rfl rfl g13 (kl_fd rfl (by assumption) (fun p16 a17 => ?_))))
   refine kl_gT rfl rfl g13 (kl_ld rfl (by assumption) (kl_gT rfl rfl g13 (kl_callP rfl rfl (equalInts_ok a.vars b.vars (by assumption) (by assumption)) ?_)))
   refine kl_andT rfl rfl g13 ?_
   exact J18 _ (pc 16 rfl (pc 2 rfl (pc 3 rfl (pc 4 rfl (pc 10 rfl pn)))))
  ·skip
   refine kl_gF rfl rfl g13 (kl_gF rfl rfl g13 (kl_gF rfl rfl g13 (kl_gF rfl rfl g13 (kl_gF rfl rfl g13 (kl_andF (decide (a.vars = b.vars)) rfl rfl g13 ?_)))))
   exact J18 _ (pc 16 rfl (pc 2 rfl (pc 3 rfl (pc 4 rfl (pc 10 rfl pn)))))
 refine kl_mv rfl (kl_join 6 23 (.bool ((decide (a.kind = b.kind) && (decide (a.vars = b.vars))) && (decide (a.args = b.args)))) (pc 2 rfl (pc 3 rfl (pc 4 rfl (pc 17 rfl pn)))) (fun J24 => ?_) ?_)
 ·rcases Bool.eq_false_or_eq_true (decide (a.kind = b.kind) && (decide (a.vars = b.vars))) with g19 | g19
  ·skip
   have g19p := g19
   try simp only [Bool.not_eq_true', Bool.not_eq_false', decide_eq_true_eq, decide_eq_false_iff_not, Bool.and_eq_true, Bool.or_eq_false_iff, withinB_iff] at g19p
   refine kl_gT rfl rfl g19 (kl_fd rfl (by assumption) (fun p20 a21 => ?_))
   refine kl_gT rfl rfl g19 (kl_ld rfl (by assumption) (kl_gT rfl rfl g19 (kl_fd rfl (by assumption) (fun p22 a23 => ?_))))
   refine kl_gT rfl rfl g19 (kl_ld rfl (by assumption) (kl_gT rfl rfl g19 (kl_callP rfl rfl (equalInts_ok a.args b.args (by assumption) (by assumption)) ?_)))
   refine kl_andT rfl rfl g19 ?_
   exact J24 _ (pc 23 rfl (pc 2 rfl (pc 3 rfl (pc 4 rfl (pc 17 rfl pn)))))
  ·skip
   refine kl_gF rfl rfl g19 (kl_gF rfl rfl g19 (kl_gF rfl rfl g19 (kl_gF rfl rfl g19 (kl_gF rfl rfl g19 (kl_andF (decide (a.args = b.args)) rfl rfl g19 ?_)))))
   exact J24 _ (pc 23 rfl (pc 2 rfl (pc 3 rfl (pc 4 rfl (pc 17 rfl pn)))))
 refine kl_mv rfl (kl_join 6 30 (.bool (((decide (a.kind = b.kind) && (decide (a.vars = b.vars))) && (decide (a.args = b.args))) && decide (a.bound = b.bound))) (pc 2 rfl (pc 3 rfl (pc 4 rfl (pc 24 rfl pn)))) (fun J30 => ?_) ?_)
 ·rcases Bool.eq_false_or_eq_true ((decide (a.kind = b.kind) && (decide (a.vars = b.vars))) && (decide (a.args = b.args))) with g25 | g25
  ·skip
   have g25p := g25
   try simp only [Bool.not_eq_true', Bool.not_eq_false', decide_eq_true_eq, decide_eq_false_iff_not, Bool.and_eq_true, Bool.or_eq_false_iff, withinB_iff] at g25p
   refine kl_gT rfl rfl g25 (kl_fd rfl (by assumption) (fun p26 a27 => ?_))
   refine kl_gT rfl rfl g25 (kl_ld rfl (by assumption) (kl_gT rfl rfl g25 (kl_fd rfl (by assumption) (fun p28 a29 => ?_))))
   refine kl_gT rfl rfl g25 (kl_ld rfl (by assumption) (kl_gT rfl rfl g25 (kl_eql rfl rfl ?_)))
   refine kl_andT rfl rfl g25 ?_
   exact J30 _ (pc 30 rfl (pc 2 rfl (pc 3 rfl (pc 4 rfl (pc 24 rfl pn)))))
  ·skip
   refine kl_gF rfl rfl g25 (kl_gF rfl rfl g25 (kl_gF rfl rfl g25 (kl_gF rfl rfl g25 (kl_gF rfl rfl g25 (kl_andF (decide (a.bound = b.bound)) rfl rfl g25 ?_)))))
   exact J30 _ (pc 30 rfl (pc 2 rfl (pc 3 rfl (pc 4 rfl (pc 24 rfl pn)))))
 refine kl_mv rfl (kl_join 6 37 (.bool ((((decide (a.kind = b.kind) && (decide (a.vars = b.vars))) && (decide (a.args = b.args))) && decide (a.bound = b.bound)) && (decide (a.rows = b.rows)))) (pc 4 rfl (pc 31 rfl pn)) (fun J36 => ?_) ?_)
 ·rcases Bool.eq_false_or_eq_true (((decide (a.kind = b.kind) && (decide (a.vars = b.vars))) && (decide (a.args = b.args))) && decide (a.bound = b.bound)) with g31 | g31
  ·skip
   have g31p := g31
   try simp only [Bool.not_eq_true', Bool.not_eq_false', decide_eq_true_eq, decide_eq_false_iff_not, Bool.and_eq_true, Bool.or_eq_false_iff, withinB_iff] at g31p
   refine kl_gT rfl rfl g31 (kl_fd rfl (by assumption) (fun p32 a33 => ?_))
   refine kl_gT rfl rfl g31 (kl_ld rfl (by assumption) (kl_gT rfl rfl g31 (kl_fd rfl (by assumption) (fun p34 a35 => ?_))))
   refine kl_gT rfl rfl g31 (kl_ld rfl (by assumption) (kl_gT rfl rfl g31 (kl_callP rfl rfl (equalLists_ok a.rows b.rows (by assumption) (by assumption)) ?_)))
   refine kl_andT rfl rfl g31 ?_
   exact J36 _ (pc 37 rfl (pc 4 rfl (pc 31 rfl pn)))
  ·skip
   refine kl_gF rfl rfl g31 (kl_gF rfl rfl g31 (kl_gF rfl rfl g31 (kl_gF rfl rfl g31 (kl_gF rfl rfl g31 (kl_andF (decide (a.rows = b.rows)) rfl rfl g31 ?_)))))
   exact J36 _ (pc 37 rfl (pc 4 rfl (pc 31 rfl pn)))
 refine kl_as rfl (kl_nil (kq_code (kc_ret (kq_retP rfl rfl (congrArg Value.bool ?_)))))
 first | (rw [eqCon_iff]; done) | (rw [eqCon_iff]; simp_all)
theorem equalMod_ok {Had : Hp} {vad : Value} {Hac : Hp} {vac : Value} {Hbd : Hp} {vbd : Value} {Hbc : Hp} {vbc : Value} (a : Mod) (b : Mod) (had : Ints Had vad a.doms) (hac : Cons Hac vac a.cons) (hbd : Ints Hbd vbd b.doms) (hbc : Cons Hbc vbc b.cons) : SpecP Try.prog 9 [.agg #[vad, vac], .agg #[vbd, vbc]] [Had, Hac, Hbd, Hbc] (.bool (decide (a = b))) := by
 refine spec_of Try.func9 rfl rfl rfl (fun B => ?_)
 refine kc_seq (kc_region (kl_box rfl rfl (fun p1 H2 f3 a4 => ?_)))
 refine kl_box rfl rfl (fun p5 H6 f7 a8 => ?_)
 refine kl_as rfl (kl_nil (kq_code (kc_seq (kc_seq (kc_region (kl_fd rfl (by assumption) (fun p9 a10 => ?_)))))))
 refine kl_ld rfl (by assumption) (kl_fd rfl (by assumption) (fun p11 a12 => ?_))
 refine kl_ld rfl (by assumption) (kl_callP rfl rfl (equalInts_ok a.doms b.doms (by assumption) (by assumption)) ?_)
 refine kl_not rfl (kl_mv rfl (kl_join 8 20 (.bool (!(decide (a.doms = b.doms)) || decide ((a.cons.length : Int) ≠ (b.cons.length : Int)))) (pc 2 rfl (pc 3 rfl (pc 4 rfl (pc 12 rfl pn)))) (fun J20 => ?_) ?_))
 ·rcases Bool.eq_false_or_eq_true (!(decide (a.doms = b.doms))) with g13 | g13
  ·skip
   refine kl_gF rfl rfl g13 (kl_gF rfl rfl g13 (kl_gF rfl rfl g13 (kl_gF rfl rfl g13 (kl_gF rfl rfl g13 (kl_gF rfl rfl g13 (kl_gF rfl rfl g13 (kl_orT (decide ((a.cons.length : Int) ≠ (b.cons.length : Int))) rfl rfl g13 ?_)))))))
   exact J20 _ (pc 20 rfl (pc 2 rfl (pc 3 rfl (pc 4 rfl (pc 12 rfl pn)))))
  ·skip
   have g13p := g13
   try simp only [Bool.not_eq_true', Bool.not_eq_false', decide_eq_true_eq, decide_eq_false_iff_not, Bool.and_eq_true, Bool.or_eq_false_iff, withinB_iff] at g13p
   refine kl_gT rfl rfl g13 (kl_fd rfl (by assumption) (fun p14 a15 => ?_))
   refine kl_gT rfl rfl g13 (kl_ld rfl (by assumption) (kl_gT rfl rfl g13 (kl_len rfl (by assumption) (fun l16 => ?_))))
   refine kl_gT rfl rfl g13 (kl_fd rfl (by assumption) (fun p17 a18 => ?_))
   refine kl_gT rfl rfl g13 (kl_ld rfl (by assumption) (kl_gT rfl rfl g13 (kl_len rfl (by assumption) (fun l19 => ?_))))
   refine kl_gT rfl rfl g13 (kl_neq rfl rfl ?_)
   refine kl_orF rfl rfl g13 ?_
   exact J20 _ (pc 20 rfl (pc 2 rfl (pc 3 rfl (pc 4 rfl (pc 12 rfl pn)))))
 refine kl_nil (kq_code (kc_cond rfl (fun c21 => ?_) (fun c21 => ?_)))
 ·skip
  have c21r := c21
  try simp only [smpC, decide_eq_true_eq, decide_eq_false_iff_not] at c21
  refine kc_seq (kc_region (kl_as rfl (kl_nil (kq_code (kc_ret (kq_retP rfl rfl (congrArg Value.bool ?_)))))))
  exact eqM_no (by assumption)
 ·skip
  have c21r := c21
  try simp only [smpC, decide_eq_true_eq, decide_eq_false_iff_not] at c21
  have hcc := c21r
  have hcl := c21r
  simp only [Bool.or_eq_false_iff, decide_eq_false_iff_not] at hcl
  have hcl := hcl.2
  refine kc_skipQ (kq_code (kc_seq (kc_seq (kc_region (kl_as rfl (kl_nil (kq_code (kc_block (kc_loop0 (A := Nat) (fun zz => (zz ≤ a.cons.length) ∧ (a.cons.take zz = b.cons.take zz)) (fun zz => a.cons.length - zz) (fun zz => [(5, .int .i64 (zz : Int))]) (0) (pc 2 rfl (pc 3 rfl pn)) (pc 5 rfl pn) ⟨Nat.zero_le _, by simp⟩ ?_)))))))))
  rintro k hJ24
  obtain ⟨hk22, hi23⟩ : (k ≤ a.cons.length) ∧ (a.cons.take k = b.cons.take k) := hJ24
  change KC _ _ (_) _ _ ([(5, .int .i64 (k : Int))] ++ _)
  refine kc_seq (kc_seq (kc_region (kl_mv rfl (kl_fd rfl (by assumption) (fun p25 a26 => ?_)))))
  refine kl_ld rfl (by assumption) (kl_len rfl (by assumption) (fun l27 => ?_))
  refine kl_lss rfl rfl ?_
  refine kl_nil (kq_code (kc_if rfl (fun c28 => ?_) (fun c28 => ?_)))
  ·skip
   refine kc_skipQ (kq_code (kc_seq (kc_block (kc_seq (kc_tree (fun i => ([10] : List Nat).contains i) [] (by kernel_rfl) ?_)))))
   refine kt_q 0 (List.nil_sublist _) rfl (by kernel_rfl) (kl_fd rfl (by assumption) (fun p29 a30 => ?_))
   refine kl_nil (kq_q (kt_q 1 (List.nil_sublist _) rfl (by kernel_rfl) (kl_ld rfl (by assumption) (kl_nil (kq_q (kt_q 2 (List.nil_sublist _) rfl (by kernel_rfl) (kl_mv rfl (kl_nil (kq_q (kt_q 3 (List.nil_sublist _) rfl (by kernel_rfl) (kl_inC rfl rfl (by assumption) (by omega) (fun p31 u33 u34 u35 h36 h37 h38 a32 => ?_))))))))))))
   refine kl_nil (kq_q (kt_q 4 (List.nil_sublist _) rfl (by kernel_rfl) (kl_ldS rfl (by assumption) rfl ?_)))
   refine kl_nil (kq_q (kt_q 5 (List.nil_sublist _) rfl (by kernel_rfl) (kl_fd rfl (by assumption) (fun p39 a40 => ?_))))
   refine kl_nil (kq_q (kt_q 6 (List.nil_sublist _) rfl (by kernel_rfl) (kl_ld rfl (by assumption) (kl_nil (kq_q (kt_q 7 (List.nil_sublist _) rfl (by kernel_rfl) (kl_mv rfl (kl_nil (kq_q (kt_q 8 (List.nil_sublist _) rfl (by kernel_rfl) (kl_inC rfl rfl (by assumption) (by omega) (fun p41 u43 u44 u45 h46 h47 h48 a42 => ?_))))))))))))
   refine kl_nil (kq_q (kt_q 9 (List.nil_sublist _) rfl (by kernel_rfl) (kl_ldS rfl (by assumption) rfl ?_)))
   refine kl_nil (kq_q (kt_a 10 rfl (by kernel_rfl) (kl_callP rfl rfl (equalCon_ok (a.cons.getD k nilCon) (b.cons.getD k nilCon) (by assumption) (by assumption) (by assumption) (by assumption) (by assumption) (by assumption)) ?_)))
   refine kl_nil (kq_x rfl (kt_q 11 (List.nil_sublist _) rfl (by kernel_rfl) (kl_not rfl (kl_nil (kq_q (kt_end (by kernel_rfl) ?_))))))
   refine kq_code (kc_cond rfl (fun c49 => ?_) (fun c49 => ?_))
   ·skip
    have c49r := c49
    try simp only [smpC, decide_eq_true_eq, decide_eq_false_iff_not] at c49
    refine kc_seq (kc_region (kl_as rfl (kl_nil (kq_code (kc_ret (kq_retP rfl rfl (congrArg Value.bool ?_)))))))
    exact eqM_at (k := k) (by simpa using by assumption)
   ·skip
    have c49r := c49
    try simp only [smpC, decide_eq_true_eq, decide_eq_false_iff_not] at c49
    refine kc_skipQ (kq_code (kc_region (kl_mv rfl (kl_inc rfl rfl (by omega) ?_))))
    refine kl_as rfl (kl_nil (kq_round0 ((k + 1)) (by omega) (⟨by omega, eq_step nilCon (by omega) (by omega) hi23 (by first | exact Decidable.not_not.1 (by assumption) | (simpa using by assumption))⟩) (pc 5 rfl pn) (pc 2 rfl (pc 3 rfl pn)) (List.Sublist.refl _)))
  ·skip
   refine kc_exit (kq_code (kc_seq (kc_region (kl_as rfl (kl_nil (kq_code (kc_ret (kq_retP rfl rfl (congrArg Value.bool ?_)))))))))
   exact eqM_end hcc (by omega) hi23
end Go.Proofs.Ytiilanckbocifaa
