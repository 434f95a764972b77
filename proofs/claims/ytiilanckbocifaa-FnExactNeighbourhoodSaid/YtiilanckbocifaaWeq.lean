/- Walks of functions of the program: each returns what the plain function gives. Conditions: those that each statement names. -/
import Derived.Test.YtiilanckbocifaaTys
import Derived.Test.YtiilanckbocifaaPure
namespace Go.Proofs.Ytiilanckbocifaa
open Go
set_option linter.unusedSimpArgs false
set_option linter.unusedVariables false
theorem eqIntS_ok {Ha : Hp} {va : Value} {Hb : Hp} {vb : Value} (a : List Int) (b : List Int) (ha : Ints Ha va a) (hb : Ints Hb vb b) : SpecP Try.prog 16 [va, vb] [Ha, Hb] (.bool (decide (a = b))) := by
 refine spec_of Try.func16 rfl rfl rfl (fun B => ?_)
 refine kc_seq (kc_region (kl_as rfl (kl_nil (kq_code (kc_seq (kc_seq (kc_region (kl_mv rfl (kl_len rfl (by assumption) (fun l1 => ?_))))))))))
 refine kl_mv rfl (kl_len rfl (by assumption) (fun l2 => ?_))
 refine kl_neq rfl rfl ?_
 refine kl_nil (kq_code (kc_if rfl (fun c3 => ?_) (fun c3 => ?_)))
 ·skip
  refine kc_seq (kc_region (kl_as rfl (kl_nil (kq_code (kc_ret (kq_retP rfl rfl (congrArg Value.bool ?_)))))))
  exact eq_len (by assumption)
 ·skip
  refine kc_skipQ (kq_code (kc_seq (kc_seq (kc_region (kl_as rfl (kl_nil (kq_code (kc_block (kc_loop0 (A := Nat) (fun zz => (zz ≤ a.length) ∧ (a.take zz = b.take zz)) (fun zz => a.length - zz) (fun zz => [(5, .int .i64 (zz : Int))]) (0) (pc 0 rfl (pc 1 rfl pn)) (pc 5 rfl pn) ⟨Nat.zero_le _, by simp⟩ ?_)))))))))
  rintro k hJ6
  obtain ⟨hk4, hi5⟩ : (k ≤ a.length) ∧ (a.take k = b.take k) := hJ6
  change KC _ _ (_) _ _ ([(5, .int .i64 (k : Int))] ++ _)
  refine kc_seq (kc_seq (kc_region (kl_mv rfl (kl_mv rfl (kl_len rfl (by assumption) (fun l7 => ?_))))))
  refine kl_lss rfl rfl ?_
  refine kl_nil (kq_code (kc_if rfl (fun c8 => ?_) (fun c8 => ?_)))
  ·skip
   refine kc_skipQ (kq_code (kc_seq (kc_block (kc_seq (kc_draw 9 [true, true, true, true, true, true, true, true, true] (by kernel_rfl) (by kernel_rfl) ?_)))))
   refine kl_mv rfl (kl_mv rfl (kl_inI rfl rfl (by assumption) (by omega) (fun p9 a10 => ?_)))
   refine kl_ld rfl (by assumption) (kl_mv rfl (kl_mv rfl (kl_inI rfl rfl (by assumption) (by omega) (fun p11 a12 => ?_))))
   refine kl_ld rfl (by assumption) (kl_neq rfl rfl ?_)
   refine kl_nil (kq_code (kc_if rfl (fun c13 => ?_) (fun c13 => ?_)))
   ·skip
    refine kc_seq (kc_region (kl_as rfl (kl_nil (kq_code (kc_ret (kq_retP rfl rfl (congrArg Value.bool ?_)))))))
    exact eq_at (k := k) 0 (by simpa using by assumption)
   ·skip
    refine kc_skipQ (kq_code (kc_region (kl_mv rfl (kl_inc rfl rfl (by omega) ?_))))
    refine kl_as rfl (kl_nil (kq_round0 ((k + 1)) (by omega) (⟨by omega, eq_step 0 (by omega) (by omega) hi5 (by first | exact Decidable.not_not.1 (by assumption) | (simpa using by assumption))⟩) (pc 5 rfl pn) (pc 0 rfl (pc 1 rfl pn)) (List.Sublist.refl _)))
  ·skip
   refine kc_exit (kq_code (kc_seq (kc_region (kl_as rfl (kl_nil (kq_code (kc_ret (kq_retP rfl rfl (congrArg Value.bool ?_)))))))))
   exact eq_end (k := k) (by omega) (by omega) (by assumption)
theorem eqIntSS_ok {Ha : Hp} {va : Value} {Hb : Hp} {vb : Value} (a : List (List Int)) (b : List (List Int)) (ha : Rows Ha va a) (hb : Rows Hb vb b) : SpecP Try.prog 108 [va, vb] [Ha, Hb] (.bool (decide (a = b))) := by
 refine spec_of Try.func108 rfl rfl rfl (fun B => ?_)
 refine kc_seq (kc_region (kl_as rfl (kl_nil (kq_code (kc_seq (kc_seq (kc_region (kl_mv rfl (kl_len rfl (by assumption) (fun l1 => ?_))))))))))
 refine kl_mv rfl (kl_len rfl (by assumption) (fun l2 => ?_))
 refine kl_neq rfl rfl ?_
 refine kl_nil (kq_code (kc_if rfl (fun c3 => ?_) (fun c3 => ?_)))
 ·skip
  refine kc_seq (kc_region (kl_as rfl (kl_nil (kq_code (kc_ret (kq_retP rfl rfl (congrArg Value.bool ?_)))))))
  exact eq_len (by assumption)
 ·skip
  refine kc_skipQ (kq_code (kc_seq (kc_seq (kc_region (kl_as rfl (kl_nil (kq_code (kc_block (kc_loop0 (A := Nat) (fun zz => (zz ≤ a.length) ∧ (a.take zz = b.take zz)) (fun zz => a.length - zz) (fun zz => [(5, .int .i64 (zz : Int))]) (0) (pc 0 rfl (pc 1 rfl pn)) (pc 5 rfl pn) ⟨Nat.zero_le _, by simp⟩ ?_)))))))))
  rintro k hJ6
  obtain ⟨hk4, hi5⟩ : (k ≤ a.length) ∧ (a.take k = b.take k) := hJ6
  change KC _ _ (_) _ _ ([(5, .int .i64 (k : Int))] ++ _)
  refine kc_seq (kc_seq (kc_region (kl_mv rfl (kl_mv rfl (kl_len rfl (by assumption) (fun l7 => ?_))))))
  refine kl_lss rfl rfl ?_
  refine kl_nil (kq_code (kc_if rfl (fun c8 => ?_) (fun c8 => ?_)))
  ·skip
   refine kc_skipQ (kq_code (kc_seq (kc_block (kc_seq (kc_draw 10 [true, true, true, true, true, true, true, true, false, true] (by kernel_rfl) (by kernel_rfl) ?_)))))
   refine kl_mv rfl (kl_mv rfl (kl_inS rfl rfl (by assumption) (by omega) (fun p9 u11 h12 a10 => ?_)))
   refine kl_ld rfl (by assumption) (kl_mv rfl (kl_mv rfl (kl_inS rfl rfl (by assumption) (by omega) (fun p13 u15 h16 a14 => ?_))))
   refine kl_ld rfl (by assumption) (kl_callP rfl rfl (eqIntS_ok (a.getD k []) (b.getD k []) (by assumption) (by assumption)) ?_)
   refine kl_not rfl (kl_nil (kq_code (kc_cond rfl (fun c17 => ?_) (fun c17 => ?_))))
   ·skip
    have c17r := c17
    try simp only [smpC, decide_eq_true_eq, decide_eq_false_iff_not] at c17
    refine kc_seq (kc_region (kl_as rfl (kl_nil (kq_code (kc_ret (kq_retP rfl rfl (congrArg Value.bool ?_)))))))
    exact eq_at (k := k) [] (by simpa using by assumption)
   ·skip
    have c17r := c17
    try simp only [smpC, decide_eq_true_eq, decide_eq_false_iff_not] at c17
    refine kc_skipQ (kq_code (kc_region (kl_mv rfl (kl_inc rfl rfl (by omega) ?_))))
    refine kl_as rfl (kl_nil (kq_round0 ((k + 1)) (by omega) (⟨by omega, eq_step [] (by omega) (by omega) hi5 (by first | exact Decidable.not_not.1 (by assumption) | (simpa using by assumption))⟩) (pc 5 rfl pn) (pc 0 rfl (pc 1 rfl pn)) (List.Sublist.refl _)))
  ·skip
   refine kc_exit (kq_code (kc_seq (kc_region (kl_as rfl (kl_nil (kq_code (kc_ret (kq_retP rfl rfl (congrArg Value.bool ?_)))))))))
   exact eq_end (k := k) (by omega) (by omega) (by assumption)
theorem eqConstraint_ok {Hav : Hp} {vav : Value} {Haa : Hp} {vaa : Value} {Har : Hp} {var : Value} {Hbv : Hp} {vbv : Value} {Hba : Hp} {vba : Value} {Hbr : Hp} {vbr : Value} (a : Con) (b : Con) (hav : Ints Hav vav a.vars) (haa : Ints Haa vaa a.args) (har : Rows Har var a.rows) (hbv : Ints Hbv vbv b.vars) (hba : Ints Hba vba b.args) (hbr : Rows Hbr vbr b.rows) : SpecP Try.prog 79 [.agg #[.int .i64 a.kind, vav, vaa, .int .i64 a.bound, var], .agg #[.int .i64 b.kind, vbv, vba, .int .i64 b.bound, vbr]] [Hav, Haa, Har, Hbv, Hba, Hbr] (.bool (decide (a = b))) := by
 refine spec_of Try.func79 rfl rfl rfl (fun B => ?_)
 refine kc_seq (kc_region (kl_box rfl rfl (fun p1 H2 f3 a4 => ?_)))
 refine kl_box rfl rfl (fun p5 H6 f7 a8 => ?_)
 refine kl_as rfl (kl_nil (kq_code (kc_seq (kc_seq (kc_region (kl_fd rfl (by assumption) (fun p9 a10 => ?_)))))))
 refine kl_ld rfl (by assumption) (kl_fd rfl (by assumption) (fun p11 a12 => ?_))
 refine kl_ld rfl (by assumption) (kl_neq rfl rfl ?_)
 refine kl_nil (kq_code (kc_if rfl (fun c13 => ?_) (fun c13 => ?_)))
 ·skip
  refine kc_seq (kc_region (kl_as rfl (kl_nil (kq_code (kc_ret (kq_retP rfl rfl (congrArg Value.bool ?_)))))))
  rw [eqCon_iff]; simp_all
 ·skip
  refine kc_skipQ (kq_code (kc_seq (kc_seq (kc_region (kl_fd rfl (by assumption) (fun p14 a15 => ?_))))))
  refine kl_ld rfl (by assumption) (kl_fd rfl (by assumption) (fun p16 a17 => ?_))
  refine kl_ld rfl (by assumption) (kl_callP rfl rfl (eqIntS_ok a.vars b.vars (by assumption) (by assumption)) ?_)
  refine kl_not rfl (kl_nil (kq_code (kc_cond rfl (fun c18 => ?_) (fun c18 => ?_))))
  ·skip
   have c18r := c18
   try simp only [smpC, decide_eq_true_eq, decide_eq_false_iff_not] at c18
   refine kc_seq (kc_region (kl_as rfl (kl_nil (kq_code (kc_ret (kq_retP rfl rfl (congrArg Value.bool ?_)))))))
   rw [eqCon_iff]; simp_all
  ·skip
   have c18r := c18
   try simp only [smpC, decide_eq_true_eq, decide_eq_false_iff_not] at c18
   refine kc_skipQ (kq_code (kc_seq (kc_seq (kc_region (kl_fd rfl (by assumption) (fun p19 a20 => ?_))))))
   refine kl_ld rfl (by assumption) (kl_fd rfl (by assumption) (fun p21 a22 => ?_))
   refine kl_ld rfl (by assumption) (kl_callP rfl rfl (eqIntS_ok a.args b.args (by assumption) (by assumption)) ?_)
   refine kl_not rfl (kl_nil (kq_code (kc_cond rfl (fun c23 => ?_) (fun c23 => ?_))))
   ·skip
    have c23r := c23
    try simp only [smpC, decide_eq_true_eq, decide_eq_false_iff_not] at c23
    refine kc_seq (kc_region (kl_as rfl (kl_nil (kq_code (kc_ret (kq_retP rfl rfl (congrArg Value.bool ?_)))))))
    rw [eqCon_iff]; simp_all
   ·skip
    have c23r := c23
    try simp only [smpC, decide_eq_true_eq, decide_eq_false_iff_not] at c23
    refine kc_skipQ (kq_code (kc_seq (kc_seq (kc_region (kl_fd rfl (by assumption) (fun p24 a25 => ?_))))))
    refine kl_ld rfl (by assumption) (kl_fd rfl (by assumption) (fun p26 a27 => ?_))
    refine kl_ld rfl (by assumption) (kl_neq rfl rfl ?_)
    refine kl_nil (kq_code (kc_if rfl (fun c28 => ?_) (fun c28 => ?_)))
    ·skip
     refine kc_seq (kc_region (kl_as rfl (kl_nil (kq_code (kc_ret (kq_retP rfl rfl (congrArg Value.bool ?_)))))))
     rw [eqCon_iff]; simp_all
    ·skip
     refine kc_skipQ (kq_code (kc_seq (kc_seq (kc_region (kl_fd rfl (by assumption) (fun p29 a30 => ?_))))))
     refine kl_ld rfl (by assumption) (kl_fd rfl (by assumption) (fun p31 a32 => ?_))
     refine kl_ld rfl (by assumption) (kl_callP rfl rfl (eqIntSS_ok a.rows b.rows (by assumption) (by assumption)) ?_)
     refine kl_not rfl (kl_nil (kq_code (kc_cond rfl (fun c33 => ?_) (fun c33 => ?_))))
     ·skip
      have c33r := c33
      try simp only [smpC, decide_eq_true_eq, decide_eq_false_iff_not] at c33
      refine kc_seq (kc_region (kl_as rfl (kl_nil (kq_code (kc_ret (kq_retP rfl rfl (congrArg Value.bool ?_)))))))
      rw [eqCon_iff]; simp_all
     ·skip
      have c33r := c33
      try simp only [smpC, decide_eq_true_eq, decide_eq_false_iff_not] at c33
      refine kc_skipQ (kq_code (kc_seq (kc_region (kl_as rfl (kl_nil (kq_code (kc_ret (kq_retP rfl rfl (congrArg Value.bool ?_)))))))))
      rw [eqCon_iff]; simp_all
theorem eqConstraintS_ok {Ha : Hp} {va : Value} {Hb : Hp} {vb : Value} (a : List Con) (b : List Con) (ha : Cons Ha va a) (hb : Cons Hb vb b) : SpecP Try.prog 46 [va, vb] [Ha, Hb] (.bool (decide (a = b))) := by
 refine spec_of Try.func46 rfl rfl rfl (fun B => ?_)
 refine kc_seq (kc_region (kl_as rfl (kl_nil (kq_code (kc_seq (kc_seq (kc_region (kl_mv rfl (kl_len rfl (by assumption) (fun l1 => ?_))))))))))
 refine kl_mv rfl (kl_len rfl (by assumption) (fun l2 => ?_))
 refine kl_neq rfl rfl ?_
 refine kl_nil (kq_code (kc_if rfl (fun c3 => ?_) (fun c3 => ?_)))
 ·skip
  refine kc_seq (kc_region (kl_as rfl (kl_nil (kq_code (kc_ret (kq_retP rfl rfl (congrArg Value.bool ?_)))))))
  exact eq_len (by assumption)
 ·skip
  refine kc_skipQ (kq_code (kc_seq (kc_seq (kc_region (kl_as rfl (kl_nil (kq_code (kc_block (kc_loop0 (A := Nat) (fun zz => (zz ≤ a.length) ∧ (a.take zz = b.take zz)) (fun zz => a.length - zz) (fun zz => [(5, .int .i64 (zz : Int))]) (0) (pc 0 rfl (pc 1 rfl pn)) (pc 5 rfl pn) ⟨Nat.zero_le _, by simp⟩ ?_)))))))))
  rintro k hJ6
  obtain ⟨hk4, hi5⟩ : (k ≤ a.length) ∧ (a.take k = b.take k) := hJ6
  change KC _ _ (_) _ _ ([(5, .int .i64 (k : Int))] ++ _)
  refine kc_seq (kc_seq (kc_region (kl_mv rfl (kl_mv rfl (kl_len rfl (by assumption) (fun l7 => ?_))))))
  refine kl_lss rfl rfl ?_
  refine kl_nil (kq_code (kc_if rfl (fun c8 => ?_) (fun c8 => ?_)))
  ·skip
   refine kc_skipQ (kq_code (kc_seq (kc_block (kc_seq (kc_draw 10 [true, true, true, true, true, true, true, true, false, true] (by kernel_rfl) (by kernel_rfl) ?_)))))
   refine kl_mv rfl (kl_mv rfl (kl_inC rfl rfl (by assumption) (by omega) (fun p9 u11 u12 u13 h14 h15 h16 a10 => ?_)))
   refine kl_ldS rfl (by assumption) rfl ?_
   refine kl_mv rfl (kl_mv rfl (kl_inC rfl rfl (by assumption) (by omega) (fun p17 u19 u20 u21 h22 h23 h24 a18 => ?_)))
   refine kl_ldS rfl (by assumption) rfl ?_
   refine kl_callP rfl rfl (eqConstraint_ok (a.getD k nilCon) (b.getD k nilCon) (by assumption) (by assumption) (by assumption) (by assumption) (by assumption) (by assumption)) ?_
   refine kl_not rfl (kl_nil (kq_code (kc_cond rfl (fun c25 => ?_) (fun c25 => ?_))))
   ·skip
    have c25r := c25
    try simp only [smpC, decide_eq_true_eq, decide_eq_false_iff_not] at c25
    refine kc_seq (kc_region (kl_as rfl (kl_nil (kq_code (kc_ret (kq_retP rfl rfl (congrArg Value.bool ?_)))))))
    exact eq_at (k := k) nilCon (by simpa using by assumption)
   ·skip
    have c25r := c25
    try simp only [smpC, decide_eq_true_eq, decide_eq_false_iff_not] at c25
    refine kc_skipQ (kq_code (kc_region (kl_mv rfl (kl_inc rfl rfl (by omega) ?_))))
    refine kl_as rfl (kl_nil (kq_round0 ((k + 1)) (by omega) (⟨by omega, eq_step nilCon (by omega) (by omega) hi5 (by first | exact Decidable.not_not.1 (by assumption) | (simpa using by assumption))⟩) (pc 5 rfl pn) (pc 0 rfl (pc 1 rfl pn)) (List.Sublist.refl _)))
  ·skip
   refine kc_exit (kq_code (kc_seq (kc_region (kl_as rfl (kl_nil (kq_code (kc_ret (kq_retP rfl rfl (congrArg Value.bool ?_)))))))))
   exact eq_end (k := k) (by omega) (by omega) (by assumption)
theorem eqModel_ok {Had : Hp} {vad : Value} {Hac : Hp} {vac : Value} {Hbd : Hp} {vbd : Value} {Hbc : Hp} {vbc : Value} (a : Mod) (b : Mod) (had : Ints Had vad a.doms) (hac : Cons Hac vac a.cons) (hbd : Ints Hbd vbd b.doms) (hbc : Cons Hbc vbc b.cons) : SpecP Try.prog 15 [.agg #[vad, vac], .agg #[vbd, vbc]] [Had, Hac, Hbd, Hbc] (.bool (decide (a = b))) := by
 refine spec_of Try.func15 rfl rfl rfl (fun B => ?_)
 refine kc_seq (kc_region (kl_box rfl rfl (fun p1 H2 f3 a4 => ?_)))
 refine kl_box rfl rfl (fun p5 H6 f7 a8 => ?_)
 refine kl_as rfl (kl_nil (kq_code (kc_seq (kc_seq (kc_region (kl_fd rfl (by assumption) (fun p9 a10 => ?_)))))))
 refine kl_ld rfl (by assumption) (kl_fd rfl (by assumption) (fun p11 a12 => ?_))
 refine kl_ld rfl (by assumption) (kl_callP rfl rfl (eqIntS_ok a.doms b.doms (by assumption) (by assumption)) ?_)
 refine kl_not rfl (kl_nil (kq_code (kc_cond rfl (fun c13 => ?_) (fun c13 => ?_))))
 ·skip
  have c13r := c13
  try simp only [smpC, decide_eq_true_eq, decide_eq_false_iff_not] at c13
  refine kc_seq (kc_region (kl_as rfl (kl_nil (kq_code (kc_ret (kq_retP rfl rfl (congrArg Value.bool ?_)))))))
  rw [eqMod_iff]; simp_all
 ·skip
  have c13r := c13
  try simp only [smpC, decide_eq_true_eq, decide_eq_false_iff_not] at c13
  refine kc_skipQ (kq_code (kc_seq (kc_seq (kc_region (kl_fd rfl (by assumption) (fun p14 a15 => ?_))))))
  refine kl_ld rfl (by assumption) (kl_fd rfl (by assumption) (fun p16 a17 => ?_))
  refine kl_ld rfl (by assumption) (kl_callP rfl rfl (eqConstraintS_ok a.cons b.cons (by assumption) (by assumption)) ?_)
  refine kl_not rfl (kl_nil (kq_code (kc_cond rfl (fun c18 => ?_) (fun c18 => ?_))))
  ·skip
   have c18r := c18
   try simp only [smpC, decide_eq_true_eq, decide_eq_false_iff_not] at c18
   refine kc_seq (kc_region (kl_as rfl (kl_nil (kq_code (kc_ret (kq_retP rfl rfl (congrArg Value.bool ?_)))))))
   rw [eqMod_iff]; simp_all
  ·skip
   have c18r := c18
   try simp only [smpC, decide_eq_true_eq, decide_eq_false_iff_not] at c18
   refine kc_skipQ (kq_code (kc_seq (kc_region (kl_as rfl (kl_nil (kq_code (kc_ret (kq_retP rfl rfl (congrArg Value.bool ?_)))))))))
   rw [eqMod_iff]; simp_all
end Go.Proofs.Ytiilanckbocifaa
