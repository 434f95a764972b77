/- Walks of functions of the program: each returns what the plain function gives. Conditions: those that each statement names. -/
import Derived.Test.YtbbphbihgikmdaaGreatTys
import Derived.Test.YtbbphbihgikmdaaGreatPure
import Derived.Test.YtbbphbihgikmdaaGreatPureA
namespace Go.Proofs.YtbbphbihgikmdaaGreat
open Go
set_option linter.unusedSimpArgs false
set_option linter.unusedVariables false
theorem toLit_ok (a : Lit) : Spec Tryz.prog 43 [.agg #[.int .i64 a.var, .int .i64 a.val, .bool a.neg]] [] ((fun Hq vq => vq = .agg #[.int .i64 a.var, .int .i64 a.val, .bool a.neg])) := by
 refine spec_of Tryz.func43 rfl rfl rfl (fun B => ?_)
 refine kc_seq (kc_region ?_)
 refine kl_box rfl rfl (fun p1 H2 f3 a4 => ?_)
 refine kl_alloc (cs := [.int .i64 (0 : Int), .int .i64 (0 : Int), .bool false]) rfl (fun b5 hb6 => ?_)
 refine kl_nil (kq_code (kc_seq (kc_region ?_)))
 refine kl_alloc (cs := [.int .i64 (0 : Int), .int .i64 (0 : Int), .bool false]) rfl (fun b7 hb8 => ?_)
 refine kl_nil (kq_code (kc_seq (kc_region ?_)))
 refine kl_fd rfl (by assumption) (fun p9 a10 => ?_)
 refine kl_ld rfl (by assumption) ?_
 refine kl_fdV rfl ?_
 refine kl_stB rfl rfl rfl rfl rfl ?_
 refine kl_chg [sing b7 (.cells [.int .i64 a.var, .int .i64 (0 : Int), .bool false].toArray 43 (0, 0)), sing b5 (.cells [.int .i64 (0 : Int), .int .i64 (0 : Int), .bool false].toArray 43 (0, 0))] rfl ?_
 refine kl_nil (kq_code (kc_seq (kc_region ?_)))
 refine kl_fd rfl (by assumption) (fun p11 a12 => ?_)
 refine kl_ld rfl (by assumption) ?_
 refine kl_fdV rfl ?_
 refine kl_stB rfl rfl rfl rfl rfl ?_
 refine kl_chg [sing b7 (.cells [.int .i64 a.var, .int .i64 a.val, .bool false].toArray 43 (0, 0)), sing b5 (.cells [.int .i64 (0 : Int), .int .i64 (0 : Int), .bool false].toArray 43 (0, 0))] rfl ?_
 refine kl_nil (kq_code (kc_seq (kc_region ?_)))
 refine kl_fd rfl (by assumption) (fun p13 a14 => ?_)
 refine kl_ld rfl (by assumption) ?_
 refine kl_fdV rfl ?_
 refine kl_stB rfl rfl rfl rfl rfl ?_
 refine kl_chg [sing b7 (.cells [.int .i64 a.var, .int .i64 a.val, .bool a.neg].toArray 43 (0, 0)), sing b5 (.cells [.int .i64 (0 : Int), .int .i64 (0 : Int), .bool false].toArray 43 (0, 0))] rfl ?_
 refine kl_nil (kq_code (kc_seq (kc_region ?_)))
 refine kl_ldW rfl rfl ?_
 refine kl_stW (us := [.int .i64 a.var, .int .i64 a.val, .bool a.neg]) rfl rfl rfl rfl (oc rfl (oc rfl (oc rfl oc_nil))) rfl ?_
 refine kl_chg [sing b7 (.cells [.int .i64 a.var, .int .i64 a.val, .bool a.neg].toArray 43 (0, 0)), sing b5 (.cells [.int .i64 a.var, .int .i64 a.val, .bool a.neg].toArray 43 (0, 0))] rfl ?_
 refine kl_nil (kq_code ?_)
 refine kc_ret ?_
 exact kq_retC rfl rfl rfl noHp (fr_no _) rfl
theorem toLitS_ok {Ha : Hp} {va : Value} (a : List Lit) (hb : a.length ≤ 1048576) (ha : Lits Ha va a) : Spec Tryz.prog 12 [va] [Ha] (fun Hq vq => Lits Hq vq a) := by
 refine spec_of Tryz.func12 rfl rfl rfl (fun B => ?_)
 refine kc_seq (kc_region ?_)
 refine kl_as rfl ?_
 refine kl_nil (kq_code (kc_seq (kc_region ?_)))
 refine kl_mv rfl ?_
 refine kl_len rfl (by assumption) (fun l1 => ?_)
 refine kl_mkL (R := LitV) nilLit rfl rfl (by omega) (by decide) (by exact rfl) (fun v2 H3 f4 o5 => ?_)
 refine kl_as rfl ?_
 refine kl_nil (kq_code ?_)
 refine kc_seq ?_
 refine kc_seq (kc_region ?_)
 refine kl_as rfl ?_
 refine kl_nil (kq_code ?_)
 refine kc_block ?_
 refine kc_loopL (A := Nat × Hp) (fun zz => (zz.1 ≤ a.length) ∧ OwnL 43 3 zz.2 noHp LitV v2 (a.take zz.1 ++ List.replicate (a.length - zz.1) nilLit) ∧ Fr B zz.2) (fun zz => a.length - zz.1) (fun zz => [zz.2]) (fun zz => [(4, .int .i64 (zz.1 : Int))]) (0, H3) (pc 0 rfl (pc 2 rfl (pc 3 rfl pn))) (pc 4 rfl pn) rfl ⟨Nat.zero_le _, (OwnL.cast (by simp : (List.replicate a.length nilLit) = (a.take 0 ++ List.replicate (a.length - 0) nilLit)) o5), f4⟩ ?_
 rintro ⟨k, H8⟩ hJ11
 obtain ⟨hk6, o9, f10⟩ : (k ≤ a.length) ∧ OwnL 43 3 H8 noHp LitV v2 (a.take k ++ List.replicate (a.length - k) nilLit) ∧ Fr B H8 := hJ11
 change KC _ _ (_) [H8] _ ([(4, .int .i64 (k : Int))] ++ _)
 refine kc_seq ?_
 refine kc_seq (kc_region ?_)
 refine kl_mv rfl ?_
 refine kl_mv rfl ?_
 refine kl_len rfl (by assumption) (fun l12 => ?_)
 refine kl_lss rfl rfl ?_
 refine kl_nil (kq_code ?_)
 refine kc_if rfl (fun c13 => ?_) (fun c13 => ?_)
 ·skip
  refine kc_skipQ ?_
  refine kq_code ?_
  refine kc_seq ?_
  refine kc_block ?_
  refine kc_region ?_
  refine kl_mv rfl ?_
  refine kl_mv rfl ?_
  refine kl_mv rfl ?_
  refine kl_mv rfl ?_
  refine kl_inQ rfl rfl (by assumption) (by first | omega | (simp only [List.length_append, List.length_take, List.length_replicate]; omega)) (fun p14 a15 => ?_)
  refine kl_ldS rfl (by assumption) rfl ?_
  refine kl_call rfl rfl (toLit_ok (a.getD k nilLit)) (fun v16 H17 f18 h19 => ?_)
  subst h19
  refine kl_ixLn rfl rfl (by assumption) (by first | omega | (simp only [List.length_append, List.length_take, List.length_replicate]; omega)) (fun p20 q21 => ?_)
  refine kl_stLk (us := [.int .i64 ((a.getD k nilLit).var), .int .i64 ((a.getD k nilLit).val), .bool ((a.getD k nilLit).neg)]) (a.getD k nilLit) rfl rfl (by assumption) o9 (by first | omega | (simp only [List.length_append, List.length_take, List.length_replicate]; omega)) rfl rfl (oc rfl (oc rfl (oc rfl oc_nil))) rfl (fun H22 o23 f24 => ?_)
  have f25 := f24 _ f10
  refine kl_nil (kq_code ?_)
  refine kc_region ?_
  refine kl_mv rfl ?_
  refine kl_inc rfl rfl (by omega) ?_
  refine kl_as rfl ?_
  refine kl_nil ?_
  refine kq_roundL ((k + 1), H22) (by omega) (⟨by omega, (OwnL.cast (by exact fill_step nilLit (by omega) : ((a.take k ++ List.replicate (a.length - k) nilLit).set k (a.getD k nilLit)) = (a.take (k + 1) ++ List.replicate (a.length - (k + 1)) nilLit)) o23), f25⟩) (pc 4 rfl pn) (pc 0 rfl (pc 2 rfl (pc 3 rfl pn))) rfl (List.Sublist.refl _)
 ·skip
  refine kc_exit ?_
  refine kq_code ?_
  refine kc_seq (kc_region ?_)
  refine kl_mv rfl ?_
  refine kl_as rfl ?_
  refine kl_nil (kq_code ?_)
  refine kc_ret ?_
  have e9 : (a.take k ++ List.replicate (a.length - k) nilLit) = a := by exact fill_end (by omega)
  exact kq_ret rfl rfl H8 f10 (e9 ▸ OwnL.lits o9)
theorem szLitS_ok {Ha : Hp} {va : Value} (a : List Lit) (left : Int) (hl : 0 ≤ left ∧ left ≤ 1048576) (ha : Lits Ha va a) : SpecP Tryz.prog 9 [va, .int .i64 left] [Ha] (.int .i64 (szB left a.length)) := by
 refine spec_of Tryz.func9 rfl rfl rfl (fun B => ?_)
 refine kc_seq (kc_region ?_)
 refine kl_as rfl ?_
 refine kl_nil (kq_code (kc_seq (kc_region ?_)))
 refine kl_mv rfl ?_
 refine kl_mv rfl ?_
 refine kl_len rfl (by assumption) (fun l1 => ?_)
 refine kl_sub rfl rfl (by omega) ?_
 refine kl_as rfl ?_
 refine kl_nil (kq_code ?_)
 refine kc_seq ?_
 refine kc_seq (kc_region ?_)
 refine kl_mv rfl ?_
 refine kl_lss rfl rfl ?_
 refine kl_nil (kq_code ?_)
 refine kc_if rfl (fun c2 => ?_) (fun c2 => ?_)
 ·skip
  refine kc_seq (kc_region ?_)
  refine kl_as rfl ?_
  refine kl_nil (kq_code ?_)
  refine kc_ret ?_
  refine kq_retP rfl rfl (congrArg (Value.int .i64) ?_)
  exact szB_neg (by omega)
 ·skip
  refine kc_skipQ ?_
  refine kq_code ?_
  refine kc_seq (kc_region ?_)
  refine kl_mv rfl ?_
  refine kl_as rfl ?_
  refine kl_nil (kq_code ?_)
  refine kc_ret ?_
  refine kq_retP rfl rfl (congrArg (Value.int .i64) ?_)
  exact szB_pos rfl (by omega)
theorem eqLit_ok (a : Lit) (b : Lit) : SpecP Tryz.prog 49 [.agg #[.int .i64 a.var, .int .i64 a.val, .bool a.neg], .agg #[.int .i64 b.var, .int .i64 b.val, .bool b.neg]] [] (.bool (decide (a = b))) := by
 refine spec_of Tryz.func49 rfl rfl rfl (fun B => ?_)
 refine kc_seq (kc_region ?_)
 refine kl_box rfl rfl (fun p1 H2 f3 a4 => ?_)
 refine kl_box rfl rfl (fun p5 H6 f7 a8 => ?_)
 refine kl_as rfl ?_
 refine kl_nil (kq_code ?_)
 refine kc_seq ?_
 refine kc_seq (kc_region ?_)
 refine kl_fd rfl (by assumption) (fun p9 a10 => ?_)
 refine kl_ld rfl (by assumption) ?_
 refine kl_fd rfl (by assumption) (fun p11 a12 => ?_)
 refine kl_ld rfl (by assumption) ?_
 refine kl_neq rfl rfl ?_
 refine kl_nil (kq_code ?_)
 refine kc_if rfl (fun c13 => ?_) (fun c13 => ?_)
 ·skip
  refine kc_seq (kc_region ?_)
  refine kl_as rfl ?_
  refine kl_nil (kq_code ?_)
  refine kc_ret ?_
  refine kq_retP rfl rfl (congrArg Value.bool ?_)
  rw [eqLit_iff]; simp_all
 ·skip
  refine kc_skipQ ?_
  refine kq_code ?_
  refine kc_seq ?_
  refine kc_seq (kc_region ?_)
  refine kl_fd rfl (by assumption) (fun p14 a15 => ?_)
  refine kl_ld rfl (by assumption) ?_
  refine kl_fd rfl (by assumption) (fun p16 a17 => ?_)
  refine kl_ld rfl (by assumption) ?_
  refine kl_neq rfl rfl ?_
  refine kl_nil (kq_code ?_)
  refine kc_if rfl (fun c18 => ?_) (fun c18 => ?_)
  ·skip
   refine kc_seq (kc_region ?_)
   refine kl_as rfl ?_
   refine kl_nil (kq_code ?_)
   refine kc_ret ?_
   refine kq_retP rfl rfl (congrArg Value.bool ?_)
   rw [eqLit_iff]; simp_all
  ·skip
   refine kc_skipQ ?_
   refine kq_code ?_
   refine kc_seq ?_
   refine kc_seq (kc_region ?_)
   refine kl_fd rfl (by assumption) (fun p19 a20 => ?_)
   refine kl_ld rfl (by assumption) ?_
   refine kl_fd rfl (by assumption) (fun p21 a22 => ?_)
   refine kl_ld rfl (by assumption) ?_
   refine kl_bne rfl rfl ?_
   refine kl_nil (kq_code ?_)
   refine kc_cond rfl (fun c23 => ?_) (fun c23 => ?_)
   ·skip
    have c23r := c23
    try simp only [Bool.not_eq_true', Bool.not_eq_false', Bool.not_true, Bool.not_false, decide_eq_true_eq, decide_eq_false_iff_not, Bool.and_eq_true, Bool.or_eq_false_iff] at c23
    refine kc_seq (kc_region ?_)
    refine kl_as rfl ?_
    refine kl_nil (kq_code ?_)
    refine kc_ret ?_
    refine kq_retP rfl rfl (congrArg Value.bool ?_)
    rw [eqLit_iff]; simp_all
   ·skip
    have c23r := c23
    try simp only [Bool.not_eq_true', Bool.not_eq_false', Bool.not_true, Bool.not_false, decide_eq_true_eq, decide_eq_false_iff_not, Bool.and_eq_true, Bool.or_eq_false_iff] at c23
    refine kc_skipQ ?_
    refine kq_code ?_
    refine kc_seq (kc_region ?_)
    refine kl_as rfl ?_
    refine kl_nil (kq_code ?_)
    refine kc_ret ?_
    refine kq_retP rfl rfl (congrArg Value.bool ?_)
    rw [eqLit_iff]; simp_all
theorem eqLiteralS_ok {Ha : Hp} {va : Value} {Hb : Hp} {vb : Value} (a : List Lit) (b : List Lit) (ha : Lits Ha va a) (hb : Lits Hb vb b) : SpecP Tryz.prog 15 [va, vb] [Ha, Hb] (.bool (decide (a = b))) := by
 refine spec_of Tryz.func15 rfl rfl rfl (fun B => ?_)
 refine kc_seq (kc_region ?_)
 refine kl_as rfl ?_
 refine kl_nil (kq_code ?_)
 refine kc_seq ?_
 refine kc_seq (kc_region ?_)
 refine kl_mv rfl ?_
 refine kl_len rfl (by assumption) (fun l1 => ?_)
 refine kl_mv rfl ?_
 refine kl_len rfl (by assumption) (fun l2 => ?_)
 refine kl_neq rfl rfl ?_
 refine kl_nil (kq_code ?_)
 refine kc_if rfl (fun c3 => ?_) (fun c3 => ?_)
 ·skip
  refine kc_seq (kc_region ?_)
  refine kl_as rfl ?_
  refine kl_nil (kq_code ?_)
  refine kc_ret ?_
  refine kq_retP rfl rfl (congrArg Value.bool ?_)
  exact eq_len (by assumption)
 ·skip
  refine kc_skipQ ?_
  refine kq_code ?_
  refine kc_seq ?_
  refine kc_seq (kc_region ?_)
  refine kl_as rfl ?_
  refine kl_nil (kq_code ?_)
  refine kc_block ?_
  refine kc_loop0 (A := Nat) (fun zz => (zz ≤ a.length) ∧ (a.take zz = b.take zz)) (fun zz => a.length - zz) (fun zz => [(5, .int .i64 (zz : Int))]) (0) (pc 0 rfl (pc 1 rfl pn)) (pc 5 rfl pn) ⟨Nat.zero_le _, by simp⟩ ?_
  rintro k hJ6
  obtain ⟨hk4, hi5⟩ : (k ≤ a.length) ∧ (a.take k = b.take k) := hJ6
  change KC _ _ (_) _ _ ([(5, .int .i64 (k : Int))] ++ _)
  refine kc_seq ?_
  refine kc_seq (kc_region ?_)
  refine kl_mv rfl ?_
  refine kl_mv rfl ?_
  refine kl_len rfl (by assumption) (fun l7 => ?_)
  refine kl_lss rfl rfl ?_
  refine kl_nil (kq_code ?_)
  refine kc_if rfl (fun c8 => ?_) (fun c8 => ?_)
  ·skip
   refine kc_skipQ ?_
   refine kq_code ?_
   refine kc_seq ?_
   refine kc_block ?_
   refine kc_seq ?_
   refine kc_draw 10 [true, true, true, true, true, true, true, true, false, true] (by kernel_rfl) (by kernel_rfl) ?_
   refine kl_mv rfl ?_
   refine kl_mv rfl ?_
   refine kl_inQ rfl rfl (by assumption) (by omega) (fun p9 a10 => ?_)
   refine kl_ldS rfl (by assumption) rfl ?_
   refine kl_mv rfl ?_
   refine kl_mv rfl ?_
   refine kl_inQ rfl rfl (by assumption) (by omega) (fun p11 a12 => ?_)
   refine kl_ldS rfl (by assumption) rfl ?_
   refine kl_callP rfl rfl (eqLit_ok (a.getD k nilLit) (b.getD k nilLit)) ?_
   refine kl_not rfl ?_
   refine kl_nil (kq_code ?_)
   refine kc_cond rfl (fun c13 => ?_) (fun c13 => ?_)
   ·skip
    have c13r := c13
    try simp only [Bool.not_eq_true', Bool.not_eq_false', Bool.not_true, Bool.not_false, decide_eq_true_eq, decide_eq_false_iff_not, Bool.and_eq_true, Bool.or_eq_false_iff] at c13
    refine kc_seq (kc_region ?_)
    refine kl_as rfl ?_
    refine kl_nil (kq_code ?_)
    refine kc_ret ?_
    refine kq_retP rfl rfl (congrArg Value.bool ?_)
    exact eq_at (k := k) nilLit (by simpa using by assumption)
   ·skip
    have c13r := c13
    try simp only [Bool.not_eq_true', Bool.not_eq_false', Bool.not_true, Bool.not_false, decide_eq_true_eq, decide_eq_false_iff_not, Bool.and_eq_true, Bool.or_eq_false_iff] at c13
    refine kc_skipQ ?_
    refine kq_code ?_
    refine kc_region ?_
    refine kl_mv rfl ?_
    refine kl_inc rfl rfl (by omega) ?_
    refine kl_as rfl ?_
    refine kl_nil ?_
    refine kq_round0 ((k + 1)) (by omega) (⟨by omega, eq_step nilLit (by omega) (by omega) hi5 (by first | exact Decidable.not_not.1 (by assumption) | (simpa using by assumption))⟩) (pc 5 rfl pn) (pc 0 rfl (pc 1 rfl pn)) (List.Sublist.refl _)
  ·skip
   refine kc_exit ?_
   refine kq_code ?_
   refine kc_seq (kc_region ?_)
   refine kl_as rfl ?_
   refine kl_nil (kq_code ?_)
   refine kc_ret ?_
   refine kq_retP rfl rfl (congrArg Value.bool ?_)
   exact eq_end (k := k) (by omega) (by omega) (by assumption)
end Go.Proofs.YtbbphbihgikmdaaGreat
