/- Walks of functions of the program: each returns what the plain function gives. Conditions: those that each statement names. -/
import Derived.Test.YtbbphbihgikmdaaGreatWmgi
import Derived.Test.YtbbphbihgikmdaaGreatWsolve
import Derived.Test.YtbbphbihgikmdaaGreatWlit
import Derived.Test.YtbbphbihgikmdaaGreatWrm
namespace Go.Proofs.YtbbphbihgikmdaaGreat
open Go
set_option linter.unusedSimpArgs false
set_option linter.unusedVariables false
theorem equalInts_ok {Ha : Hp} {va : Value} {Hb : Hp} {vb : Value} (a : List Int) (b : List Int) (ha : Ints Ha va a) (hb : Ints Hb vb b) : SpecP Tryz.prog 21 [va, vb] [Ha, Hb] (.bool (decide (a = b))) := by
 refine spec_of Tryz.func21 rfl rfl rfl (fun B => ?_)
 refine kc_seq (kc_region ?_)
 refine kl_as rfl ?_
 refine kl_nil (kq_code ?_)
 refine kc_seq ?_
 refine kc_seq (kc_region ?_)
 refine kl_mv rfl ?_
 refine kl_len rfl (by assumption) (fun l1 => ?_)
 refine kl_mv rfl ?_
 refine kl_len rfl (by assumption) (fun l2 => ?_)
 refine kl_neq rfl rfl ?_
 refine kl_nil (kq_code ?_)
 refine kc_if rfl (fun c3 => ?_) (fun c3 => ?_)
 ·skip
  refine kc_seq (kc_region ?_)
  refine kl_as rfl ?_
  refine kl_nil (kq_code ?_)
  refine kc_ret ?_
  refine kq_retP rfl rfl (congrArg Value.bool ?_)
  exact eq_len (by assumption)
 ·skip
  refine kc_skipQ ?_
  refine kq_code ?_
  refine kc_seq ?_
  refine kc_seq (kc_region ?_)
  refine kl_as rfl ?_
  refine kl_nil (kq_code ?_)
  refine kc_block ?_
  refine kc_loop0 (A := Nat) (fun zz => (zz ≤ a.length) ∧ (a.take zz = b.take zz)) (fun zz => a.length - zz) (fun zz => [(5, .int .i64 (zz : Int))]) (0) (pc 0 rfl (pc 1 rfl pn)) (pc 5 rfl pn) ⟨Nat.zero_le _, by simp⟩ ?_
  rintro k hJ6
  obtain ⟨hk4, hi5⟩ : (k ≤ a.length) ∧ (a.take k = b.take k) := hJ6
  change KC _ _ (_) _ _ ([(5, .int .i64 (k : Int))] ++ _)
  refine kc_seq ?_
  refine kc_seq (kc_region ?_)
  refine kl_mv rfl ?_
  refine kl_mv rfl ?_
  refine kl_len rfl (by assumption) (fun l7 => ?_)
  refine kl_lss rfl rfl ?_
  refine kl_nil (kq_code ?_)
  refine kc_if rfl (fun c8 => ?_) (fun c8 => ?_)
  ·skip
   refine kc_skipQ ?_
   refine kq_code ?_
   refine kc_seq ?_
   refine kc_block ?_
   refine kc_seq ?_
   refine kc_draw 9 [true, true, true, true, true, true, true, true, true] (by kernel_rfl) (by kernel_rfl) ?_
   refine kl_mv rfl ?_
   refine kl_mv rfl ?_
   refine kl_inI rfl rfl (by assumption) (by omega) (fun p9 a10 => ?_)
   refine kl_ld rfl (by assumption) ?_
   refine kl_mv rfl ?_
   refine kl_mv rfl ?_
   refine kl_inI rfl rfl (by assumption) (by omega) (fun p11 a12 => ?_)
   refine kl_ld rfl (by assumption) ?_
   refine kl_neq rfl rfl ?_
   refine kl_nil (kq_code ?_)
   refine kc_if rfl (fun c13 => ?_) (fun c13 => ?_)
   ·skip
    refine kc_seq (kc_region ?_)
    refine kl_as rfl ?_
    refine kl_nil (kq_code ?_)
    refine kc_ret ?_
    refine kq_retP rfl rfl (congrArg Value.bool ?_)
    exact eq_at (k := k) 0 (by simpa using by assumption)
   ·skip
    refine kc_skipQ ?_
    refine kq_code ?_
    refine kc_region ?_
    refine kl_mv rfl ?_
    refine kl_inc rfl rfl (by omega) ?_
    refine kl_as rfl ?_
    refine kl_nil ?_
    refine kq_round0 ((k + 1)) (by omega) (⟨by omega, eq_step 0 (by omega) (by omega) hi5 (by first | exact Decidable.not_not.1 (by assumption) | (simpa using by assumption))⟩) (pc 5 rfl pn) (pc 0 rfl (pc 1 rfl pn)) (List.Sublist.refl _)
  ·skip
   refine kc_exit ?_
   refine kq_code ?_
   refine kc_seq (kc_region ?_)
   refine kl_as rfl ?_
   refine kl_nil (kq_code ?_)
   refine kc_ret ?_
   refine kq_retP rfl rfl (congrArg Value.bool ?_)
   exact eq_end (k := k) (by omega) (by omega) (by assumption)
theorem equalLists_ok {Ha : Hp} {va : Value} {Hb : Hp} {vb : Value} (a : List (List Int)) (b : List (List Int)) (ha : Rows Ha va a) (hb : Rows Hb vb b) : SpecP Tryz.prog 26 [va, vb] [Ha, Hb] (.bool (decide (a = b))) := by
 refine spec_of Tryz.func26 rfl rfl rfl (fun B => ?_)
 refine kc_seq (kc_region ?_)
 refine kl_as rfl ?_
 refine kl_nil (kq_code ?_)
 refine kc_seq ?_
 refine kc_seq (kc_region ?_)
 refine kl_mv rfl ?_
 refine kl_len rfl (by assumption) (fun l1 => ?_)
 refine kl_mv rfl ?_
 refine kl_len rfl (by assumption) (fun l2 => ?_)
 refine kl_neq rfl rfl ?_
 refine kl_nil (kq_code ?_)
 refine kc_if rfl (fun c3 => ?_) (fun c3 => ?_)
 ·skip
  refine kc_seq (kc_region ?_)
  refine kl_as rfl ?_
  refine kl_nil (kq_code ?_)
  refine kc_ret ?_
  refine kq_retP rfl rfl (congrArg Value.bool ?_)
  exact eq_len (by assumption)
 ·skip
  refine kc_skipQ ?_
  refine kq_code ?_
  refine kc_seq ?_
  refine kc_seq (kc_region ?_)
  refine kl_as rfl ?_
  refine kl_nil (kq_code ?_)
  refine kc_block ?_
  refine kc_loop0 (A := Nat) (fun zz => (zz ≤ a.length) ∧ (a.take zz = b.take zz)) (fun zz => a.length - zz) (fun zz => [(5, .int .i64 (zz : Int))]) (0) (pc 0 rfl (pc 1 rfl pn)) (pc 5 rfl pn) ⟨Nat.zero_le _, by simp⟩ ?_
  rintro k hJ6
  obtain ⟨hk4, hi5⟩ : (k ≤ a.length) ∧ (a.take k = b.take k) := hJ6
  change KC _ _ (_) _ _ ([(5, .int .i64 (k : Int))] ++ _)
  refine kc_seq ?_
  refine kc_seq (kc_region ?_)
  refine kl_mv rfl ?_
  refine kl_mv rfl ?_
  refine kl_len rfl (by assumption) (fun l7 => ?_)
  refine kl_lss rfl rfl ?_
  refine kl_nil (kq_code ?_)
  refine kc_if rfl (fun c8 => ?_) (fun c8 => ?_)
  ·skip
   refine kc_skipQ ?_
   refine kq_code ?_
   refine kc_seq ?_
   refine kc_block ?_
   refine kc_seq ?_
   refine kc_draw 10 [true, true, true, true, true, true, true, true, false, true] (by kernel_rfl) (by kernel_rfl) ?_
   refine kl_mv rfl ?_
   refine kl_mv rfl ?_
   refine kl_inS rfl rfl (by assumption) (by omega) (fun p9 u11 h12 a10 => ?_)
   refine kl_ld rfl (by assumption) ?_
   refine kl_mv rfl ?_
   refine kl_mv rfl ?_
   refine kl_inS rfl rfl (by assumption) (by omega) (fun p13 u15 h16 a14 => ?_)
   refine kl_ld rfl (by assumption) ?_
   refine kl_callP rfl rfl (equalInts_ok (a.getD k []) (b.getD k []) (by assumption) (by assumption)) ?_
   refine kl_not rfl ?_
   refine kl_nil (kq_code ?_)
   refine kc_cond rfl (fun c17 => ?_) (fun c17 => ?_)
   ·skip
    have c17r := c17
    try simp only [Bool.not_eq_true', Bool.not_eq_false', Bool.not_true, Bool.not_false, decide_eq_true_eq, decide_eq_false_iff_not, Bool.and_eq_true, Bool.or_eq_false_iff] at c17
    refine kc_seq (kc_region ?_)
    refine kl_as rfl ?_
    refine kl_nil (kq_code ?_)
    refine kc_ret ?_
    refine kq_retP rfl rfl (congrArg Value.bool ?_)
    exact eq_at (k := k) [] (by simpa using by assumption)
   ·skip
    have c17r := c17
    try simp only [Bool.not_eq_true', Bool.not_eq_false', Bool.not_true, Bool.not_false, decide_eq_true_eq, decide_eq_false_iff_not, Bool.and_eq_true, Bool.or_eq_false_iff] at c17
    refine kc_skipQ ?_
    refine kq_code ?_
    refine kc_region ?_
    refine kl_mv rfl ?_
    refine kl_inc rfl rfl (by omega) ?_
    refine kl_as rfl ?_
    refine kl_nil ?_
    refine kq_round0 ((k + 1)) (by omega) (⟨by omega, eq_step [] (by omega) (by omega) hi5 (by first | exact Decidable.not_not.1 (by assumption) | (simpa using by assumption))⟩) (pc 5 rfl pn) (pc 0 rfl (pc 1 rfl pn)) (List.Sublist.refl _)
  ·skip
   refine kc_exit ?_
   refine kq_code ?_
   refine kc_seq (kc_region ?_)
   refine kl_as rfl ?_
   refine kl_nil (kq_code ?_)
   refine kc_ret ?_
   refine kq_retP rfl rfl (congrArg Value.bool ?_)
   exact eq_end (k := k) (by omega) (by omega) (by assumption)
theorem countSols_ok {Hmd : Hp} {vmd : Value} {Hmc : Hp} {vmc : Value} (m : Mod) (hmd : Ints Hmd vmd m.doms) (hmc : Cons Hmc vmc m.cons) : SpecP Tryz.prog 17 [.agg #[vmd, vmc]] [Hmd, Hmc] (.int .i64 (cntI m)) := by
 refine spec_of Tryz.func17 rfl rfl rfl (fun B => ?_)
 refine kc_seq (kc_region ?_)
 refine kl_box rfl rfl (fun p1 H2 f3 a4 => ?_)
 refine kl_as rfl ?_
 refine kl_nil (kq_code ?_)
 refine kc_seq ?_
 refine kc_seq (kc_region ?_)
 refine kl_ldS rfl (by assumption) rfl ?_
 refine kl_callP rfl rfl (validMod_ok m (by assumption) (by assumption)) ?_
 refine kl_not rfl ?_
 refine kl_nil (kq_code ?_)
 refine kc_cond rfl (fun c5 => ?_) (fun c5 => ?_)
 ·skip
  have c5r := c5
  try simp only [Bool.not_eq_true', Bool.not_eq_false', Bool.not_true, Bool.not_false, decide_eq_true_eq, decide_eq_false_iff_not, Bool.and_eq_true, Bool.or_eq_false_iff] at c5
  refine kc_seq (kc_region ?_)
  refine kl_as rfl ?_
  refine kl_nil (kq_code ?_)
  refine kc_ret ?_
  refine kq_retP rfl rfl (congrArg (Value.int .i64) ?_)
  exact cnt_no (by assumption)
 ·skip
  have c5r := c5
  try simp only [Bool.not_eq_true', Bool.not_eq_false', Bool.not_true, Bool.not_false, decide_eq_true_eq, decide_eq_false_iff_not, Bool.and_eq_true, Bool.or_eq_false_iff] at c5
  have hv : validModB m = true := (by simpa using c5r)
  have hM : MOk m := ⟨hv⟩
  refine kc_skipQ ?_
  refine kq_code ?_
  refine kc_seq (kc_region ?_)
  refine kl_ldS rfl (by assumption) rfl ?_
  refine kl_call rfl rfl (solutions_ok m hM (by assumption) (by assumption)) (fun v6 H7 f8 h9 => ?_)
  refine kl_len rfl (by assumption) (fun l10 => ?_)
  refine kl_as rfl ?_
  refine kl_nil (kq_code ?_)
  refine kc_ret ?_
  refine kq_retP rfl rfl (congrArg (Value.int .i64) ?_)
  exact cnt_yes hv
theorem cwImp_ok {Hmd : Hp} {vmd : Value} {Hmc : Hp} {vmc : Value} {Hc : Hp} {vc : Value} (m : Mod) (c : List Lit) (hmd : Ints Hmd vmd m.doms) (hmc : Cons Hmc vmc m.cons) (hc : Lits Hc vc c) : SpecP Tryz.prog 13 [.agg #[vmd, vmc], vc] [Hmd, Hmc, Hc] (.int .i64 (cwI m c)) := by
 refine spec_of Tryz.func13 rfl rfl rfl (fun B => ?_)
 refine kc_seq (kc_region ?_)
 refine kl_box rfl rfl (fun p1 H2 f3 a4 => ?_)
 refine kl_as rfl ?_
 refine kl_nil (kq_code ?_)
 refine kc_seq ?_
 refine kc_seq (kc_region ?_)
 refine kl_ldS rfl (by assumption) rfl ?_
 refine kl_mv rfl ?_
 refine kl_callP rfl rfl (litsOk_ok m c (by assumption) (by assumption) (by assumption)) ?_
 refine kl_not rfl ?_
 refine kl_nil (kq_code ?_)
 refine kc_cond rfl (fun c5 => ?_) (fun c5 => ?_)
 ·skip
  have c5r := c5
  try simp only [Bool.not_eq_true', Bool.not_eq_false', Bool.not_true, Bool.not_false, decide_eq_true_eq, decide_eq_false_iff_not, Bool.and_eq_true, Bool.or_eq_false_iff] at c5
  refine kc_seq (kc_region ?_)
  refine kl_as rfl ?_
  refine kl_nil (kq_code ?_)
  refine kc_ret ?_
  refine kq_retP rfl rfl (congrArg (Value.int .i64) ?_)
  exact cw_no (by assumption)
 ·skip
  have c5r := c5
  try simp only [Bool.not_eq_true', Bool.not_eq_false', Bool.not_true, Bool.not_false, decide_eq_true_eq, decide_eq_false_iff_not, Bool.and_eq_true, Bool.or_eq_false_iff] at c5
  have hcc := c5r
  have hg := lits_okN hcc
  have hM := hg.hM
  have hfw := sols_few hM
  refine kc_skipQ ?_
  refine kq_code ?_
  refine kc_seq (kc_region ?_)
  refine kl_as rfl ?_
  refine kl_nil (kq_code ?_)
  refine kc_seq ?_
  refine kc_seq (kc_region ?_)
  refine kl_ldS rfl (by assumption) rfl ?_
  refine kl_call rfl rfl (solutions_ok m hM (by assumption) (by assumption)) (fun v6 H7 f8 h9 => ?_)
  refine kl_len rfl (by assumption) (fun l10 => ?_)
  refine kl_mv rfl ?_
  refine kl_nil (kq_code ?_)
  refine kc_block ?_
  refine kc_loop0 (A := Nat × Int) (fun zz => (zz.1 ≤ (sols m).length) ∧ (zz.2 = cwTo c (sols m) zz.1)) (fun zz => (sols m).length - zz.1) (fun zz => [(15, .int .i64 (zz.1 : Int)), (5, .int .i64 zz.2)]) (0, (0 : Int)) (pc 1 rfl (pc 4 rfl (pc 13 rfl (pc 14 rfl pn)))) (pc 15 rfl (pc 5 rfl pn)) ⟨Nat.zero_le _, rfl⟩ ?_
  rintro ⟨k, z⟩ hJ13
  obtain ⟨hk11, hi12⟩ : (k ≤ (sols m).length) ∧ (z = cwTo c (sols m) k) := hJ13
  change KC _ _ (_) _ _ ([(15, .int .i64 (k : Int)), (5, .int .i64 z)] ++ _)
  have hzl := cwTo_le c (sols m) k
  refine kc_seq (kc_region ?_)
  refine kl_lss rfl rfl ?_
  refine kl_nil (kq_code ?_)
  refine kc_seq ?_
  refine kc_if rfl (fun c14 => ?_) (fun c14 => ?_)
  ·skip
   refine kc_skipQ ?_
   refine kq_code ?_
   refine kc_seq ?_
   refine kc_block ?_
   refine kc_seq (kc_region ?_)
   refine kl_inS rfl rfl (by assumption) (by omega) (fun p15 u17 h18 a16 => ?_)
   refine kl_ld rfl (by assumption) ?_
   refine kl_as rfl ?_
   refine kl_nil (kq_code (kc_seq (kc_region ?_)))
   refine kl_mv rfl ?_
   refine kl_mv rfl ?_
   refine kl_callP rfl rfl (allTrueI_ok c ((sols m).getD k []) (by rw [sols_len (getD_mem (d := []) (by omega : k < (sols m).length))]; exact hg.h) (sols_vals (getD_mem (d := []) (by omega : k < (sols m).length))) (by assumption) (by assumption)) ?_
   refine kl_nil (kq_code ?_)
   refine kc_cond rfl (fun c19 => ?_) (fun c19 => ?_)
   ·skip
    have c19r := c19
    try simp only [Bool.not_eq_true', Bool.not_eq_false', Bool.not_true, Bool.not_false, decide_eq_true_eq, decide_eq_false_iff_not, Bool.and_eq_true, Bool.or_eq_false_iff] at c19
    refine kc_region ?_
    refine kl_mv rfl ?_
    refine kl_add rfl rfl (by omega) ?_
    refine kl_as rfl ?_
    refine kl_nil (kq_code ?_)
    refine kc_region ?_
    refine kl_inc rfl rfl (by omega) ?_
    refine kl_mv rfl ?_
    refine kl_nil ?_
    refine kq_round0 ((k + 1), (z + (1 : Int))) (by omega) (⟨by omega, (by first | exact cwTo_T hi12 (by omega) (by assumption) | exact cwTo_F hi12 (by omega) (by assumption))⟩) (pc 15 rfl (pc 5 rfl pn)) (pc 1 rfl (pc 4 rfl (pc 13 rfl (pc 14 rfl pn)))) (List.Sublist.refl _)
   ·skip
    have c19r := c19
    try simp only [Bool.not_eq_true', Bool.not_eq_false', Bool.not_true, Bool.not_false, decide_eq_true_eq, decide_eq_false_iff_not, Bool.and_eq_true, Bool.or_eq_false_iff] at c19
    refine kc_skipQ ?_
    refine kq_code ?_
    refine kc_region ?_
    refine kl_inc rfl rfl (by omega) ?_
    refine kl_mv rfl ?_
    refine kl_nil ?_
    refine kq_round0 ((k + 1), z) (by omega) (⟨by omega, (by first | exact cwTo_T hi12 (by omega) (by assumption) | exact cwTo_F hi12 (by omega) (by assumption))⟩) (pc 15 rfl (pc 5 rfl pn)) (pc 1 rfl (pc 4 rfl (pc 13 rfl (pc 14 rfl pn)))) (List.Sublist.refl _)
  ·skip
   refine kc_exit ?_
   refine kq_code ?_
   refine kc_seq (kc_region ?_)
   refine kl_mv rfl ?_
   refine kl_as rfl ?_
   refine kl_nil (kq_code ?_)
   refine kc_ret ?_
   refine kq_retP rfl rfl (congrArg (Value.int .i64) ?_)
   exact cw_yes (by assumption) hi12 (by omega)
theorem backM_ok {Hmd : Hp} {vmd : Value} {Hmc : Hp} {vmc : Value} (m : Mod) (hM : MOk m) (hmd : Ints Hmd vmd m.doms) (hmc : Cons Hmc vmc m.cons) : Spec Tryz.prog 67 [.agg #[vmd, vmc]] [Hmd, Hmc] (fun Hq vq => Ints Hq vq (uniV m.doms.length (sols m))) := by
 have hn := hM.n
 have hfw := sols_few hM
 refine spec_of Tryz.func67 rfl rfl rfl (fun B => ?_)
 refine kc_seq (kc_region ?_)
 refine kl_box rfl rfl (fun p1 H2 f3 a4 => ?_)
 refine kl_as rfl ?_
 refine kl_nil (kq_code (kc_seq (kc_region ?_)))
 refine kl_fd rfl (by assumption) (fun p5 a6 => ?_)
 refine kl_ld rfl (by assumption) ?_
 refine kl_len rfl (by assumption) (fun l7 => ?_)
 refine kl_mkL (R := IntV) (0 : Int) rfl rfl (by omega) (by decide) (by exact rfl) (fun v8 H9 f10 o11 => ?_)
 refine kl_as rfl ?_
 refine kl_nil (kq_code ?_)
 refine kc_seq ?_
 refine kc_seq (kc_region ?_)
 refine kl_ldS rfl (by assumption) rfl ?_
 refine kl_call rfl rfl (solutions_ok m hM (by assumption) (by assumption)) (fun v12 H13 f14 h15 => ?_)
 refine kl_len rfl (by assumption) (fun l16 => ?_)
 refine kl_mv rfl ?_
 refine kl_nil (kq_code ?_)
 refine kc_block ?_
 refine kc_loopL (A := Nat × List Int × Hp) (fun zz => (zz.1 ≤ (sols m).length) ∧ (zz.2.1 = uniV m.doms.length ((sols m).take zz.1)) ∧ OwnL 3 1 zz.2.2 noHp IntV v8 zz.2.1 ∧ Fr B zz.2.2) (fun zz => (sols m).length - zz.1) (fun zz => [zz.2.2]) (fun zz => [(15, .int .i64 (zz.1 : Int))]) (0, (List.replicate m.doms.length (0 : Int)), H9) (pc 2 rfl (pc 3 rfl (pc 13 rfl (pc 14 rfl pn)))) (pc 15 rfl pn) rfl ⟨Nat.zero_le _, (uniV_0 _).symm, o11, f10⟩ ?_
 rintro ⟨k, out, H19⟩ hJ22
 obtain ⟨hk17, hi18, o20, f21⟩ : (k ≤ (sols m).length) ∧ (out = uniV m.doms.length ((sols m).take k)) ∧ OwnL 3 1 H19 noHp IntV v8 out ∧ Fr B H19 := hJ22
 change KC _ _ (_) [H19] _ ([(15, .int .i64 (k : Int))] ++ _)
 have hol : out.length = m.doms.length := (by rw [hi18]; exact uniV_len _ _)
 refine kc_seq (kc_region ?_)
 refine kl_lss rfl rfl ?_
 refine kl_nil (kq_code ?_)
 refine kc_seq ?_
 refine kc_if rfl (fun c23 => ?_) (fun c23 => ?_)
 ·skip
  have hsl := sols_len (getD_mem (d := []) (by omega : k < (sols m).length))
  refine kc_skipQ ?_
  refine kq_code ?_
  refine kc_seq ?_
  refine kc_block ?_
  refine kc_seq (kc_region ?_)
  refine kl_inS rfl rfl (by assumption) (by omega) (fun p24 u26 h27 a25 => ?_)
  refine kl_ld rfl (by assumption) ?_
  refine kl_as rfl ?_
  refine kl_nil (kq_code (kc_seq (kc_region ?_)))
  refine kl_mv rfl ?_
  refine kl_len rfl (by assumption) (fun l28 => ?_)
  refine kl_mv rfl ?_
  refine kl_nil (kq_code ?_)
  refine kc_block ?_
  refine kc_loopL (A := Nat × List Int × Hp) (fun zz => (zz.1 ≤ ((sols m).getD k []).length) ∧ (zz.2.1 = uniM m.doms.length ((sols m).take k) ((sols m).getD k []) zz.1) ∧ OwnL 3 1 zz.2.2 noHp IntV v8 zz.2.1 ∧ Fr B zz.2.2) (fun zz => ((sols m).getD k []).length - zz.1) (fun zz => [zz.2.2]) (fun zz => [(21, .int .i64 (zz.1 : Int))]) (0, out, H19) (pc 2 rfl (pc 3 rfl (pc 5 rfl (pc 13 rfl (pc 14 rfl (pc 15 rfl (pc 16 rfl (pc 17 rfl (pc 18 rfl (pc 19 rfl (pc 20 rfl pn))))))))))) (pc 21 rfl pn) rfl ⟨Nat.zero_le _, (by rw [hi18, uniM_0]), o20, f21⟩ ?_
  rintro ⟨k2, out1, H31⟩ hJ34
  obtain ⟨hk29, hi30, o32, f33⟩ : (k2 ≤ ((sols m).getD k []).length) ∧ (out1 = uniM m.doms.length ((sols m).take k) ((sols m).getD k []) k2) ∧ OwnL 3 1 H31 noHp IntV v8 out1 ∧ Fr B H31 := hJ34
  change KC _ _ (_) [H31] _ ([(21, .int .i64 (k2 : Int))] ++ _)
  have hln : out1.length = m.doms.length := (by rw [hi30]; exact uniM_len _ _ _ _)
  refine kc_seq (kc_region ?_)
  refine kl_lss rfl rfl ?_
  refine kl_nil (kq_code ?_)
  refine kc_seq ?_
  refine kc_if rfl (fun c35 => ?_) (fun c35 => ?_)
  ·skip
   have hv5 := (sols_vals (getD_mem (d := []) (by omega : k < (sols m).length))).at (k := k2) (by omega)
   refine kc_skipQ ?_
   refine kq_code ?_
   refine kc_seq ?_
   refine kc_block ?_
   refine kc_seq (kc_region ?_)
   refine kl_mv rfl ?_
   refine kl_inI rfl rfl (by assumption) (by omega) (fun p36 a37 => ?_)
   refine kl_ld rfl (by assumption) ?_
   refine kl_as rfl ?_
   refine kl_as rfl ?_
   refine kl_nil (kq_code ?_)
   refine kc_draw 8 [true, true, true, true, true, true, true, true, false] (by kernel_rfl) (by kernel_rfl) ?_
   refine kl_mv rfl ?_
   refine kl_mv rfl ?_
   refine kl_ixLn rfl rfl (by assumption) (by omega) (fun p38 q39 => ?_)
   refine kl_ldLI rfl (by assumption) (by assumption) (by omega) ?_
   refine kl_mv rfl ?_
   refine kl_shl rfl rfl (by omega) ?_
   refine kl_or rfl rfl ?_
   refine kl_ixLn rfl rfl (by assumption) (by omega) (fun p40 q41 => ?_)
   refine kl_stL (ior (out1.getD k2 0) (ishl (1 : Int) (((sols m).getD k []).getD k2 0))) rfl rfl (by assumption) o32 (by omega) rfl rfl rfl (fun H42 o43 f44 => ?_)
   have f45 := f44 _ f33
   refine kl_nil (kq_code ?_)
   refine kc_region ?_
   refine kl_inc rfl rfl (by omega) ?_
   refine kl_mv rfl ?_
   refine kl_nil ?_
   refine kq_roundL ((k2 + 1), (out1.set k2 (ior (out1.getD k2 0) (ishl (1 : Int) (((sols m).getD k []).getD k2 0)))), H42) (by omega) (⟨by omega, (by rw [hi30]; exact uniM_step (by omega) hv5), o43, f45⟩) (pc 21 rfl pn) (pc 2 rfl (pc 3 rfl (pc 5 rfl (pc 13 rfl (pc 14 rfl (pc 15 rfl (pc 16 rfl (pc 17 rfl (pc 18 rfl (pc 19 rfl (pc 20 rfl pn))))))))))) rfl (List.Sublist.refl _)
  ·skip
   refine kc_exit ?_
   refine kq_code ?_
   refine kc_region ?_
   refine kl_inc rfl rfl (by omega) ?_
   refine kl_mv rfl ?_
   refine kl_nil ?_
   refine kq_roundL ((k + 1), out1, H31) (by omega) (⟨by omega, (by rw [take_succ_getD [] (by omega : k < (sols m).length), hi30]; exact uniM_all (by omega)), o32, f33⟩) (pc 15 rfl pn) (pc 2 rfl (pc 3 rfl (pc 13 rfl (pc 14 rfl pn)))) rfl (List.Sublist.refl _)
 ·skip
  refine kc_exit ?_
  refine kq_code ?_
  refine kc_seq (kc_region ?_)
  refine kl_mv rfl ?_
  refine kl_as rfl ?_
  refine kl_nil (kq_code ?_)
  refine kc_ret ?_
  have e9 : out = uniV m.doms.length (sols m) := by (rw [hi18, List.take_of_length_le (by omega)])
  exact kq_ret rfl rfl H19 f21 (e9 ▸ OwnL.ints o20)
theorem backboneI_ok {Hmd : Hp} {vmd : Value} {Hmc : Hp} {vmc : Value} (m : Mod) (hmd : Ints Hmd vmd m.doms) (hmc : Cons Hmc vmc m.cons) : Spec Tryz.prog 28 [.agg #[vmd, vmc]] [Hmd, Hmc] (fun Hq vq => Ints Hq vq (backI m)) := by
 refine spec_of Tryz.func28 rfl rfl rfl (fun B => ?_)
 refine kc_seq (kc_region ?_)
 refine kl_box rfl rfl (fun p1 H2 f3 a4 => ?_)
 refine kl_as rfl ?_
 refine kl_nil (kq_code ?_)
 refine kc_seq ?_
 refine kc_seq (kc_region ?_)
 refine kl_ldS rfl (by assumption) rfl ?_
 refine kl_callP rfl rfl (validMod_ok m (by assumption) (by assumption)) ?_
 refine kl_not rfl ?_
 refine kl_nil (kq_code ?_)
 refine kc_cond rfl (fun c5 => ?_) (fun c5 => ?_)
 ·skip
  have c5r := c5
  try simp only [Bool.not_eq_true', Bool.not_eq_false', Bool.not_true, Bool.not_false, decide_eq_true_eq, decide_eq_false_iff_not, Bool.and_eq_true, Bool.or_eq_false_iff] at c5
  refine kc_seq (kc_region ?_)
  refine kl_as rfl ?_
  refine kl_nil (kq_code ?_)
  refine kc_ret ?_
  exact kq_ret rfl rfl noHp (fr_no _) (by rw [backI_no (by assumption)]; exact Sl.nil)
 ·skip
  have c5r := c5
  try simp only [Bool.not_eq_true', Bool.not_eq_false', Bool.not_true, Bool.not_false, decide_eq_true_eq, decide_eq_false_iff_not, Bool.and_eq_true, Bool.or_eq_false_iff] at c5
  have hv : validModB m = true := (by simpa using c5r)
  have hM : MOk m := ⟨hv⟩
  have hn := hM.n
  have hfw := sols_few hM
  refine kc_skipQ ?_
  refine kq_code ?_
  refine kc_seq (kc_region ?_)
  refine kl_ldS rfl (by assumption) rfl ?_
  refine kl_call rfl rfl (backM_ok m hM (by assumption) (by assumption)) (fun v6 H7 f8 h9 => ?_)
  refine kl_as rfl ?_
  refine kl_nil (kq_code ?_)
  refine kc_ret ?_
  have e9 : (uniV m.doms.length (sols m)) = backI m := by exact (backI_yes hv).symm
  exact kq_ret rfl rfl H7 f8 (e9 ▸ (by assumption : Ints _ _ (uniV m.doms.length (sols m))))
theorem margSg_ok {Hmd : Hp} {vmd : Value} {Hmc : Hp} {vmc : Value} (m : Mod) (hmd : Ints Hmd vmd m.doms) (hmc : Cons Hmc vmc m.cons) : Spec Tryz.prog 27 [.agg #[vmd, vmc]] [Hmd, Hmc] (fun Hq vq => Rows Hq vq (margI m)) := by
 refine spec_of Tryz.func27 rfl rfl rfl (fun B => ?_)
 refine kc_seq (kc_region ?_)
 refine kl_box rfl rfl (fun p1 H2 f3 a4 => ?_)
 refine kl_as rfl ?_
 refine kl_nil (kq_code ?_)
 refine kc_seq ?_
 refine kc_seq (kc_region ?_)
 refine kl_ldS rfl (by assumption) rfl ?_
 refine kl_callP rfl rfl (svalidMod_ok m (by assumption) (by assumption)) ?_
 refine kl_not rfl ?_
 refine kl_nil (kq_code ?_)
 refine kc_cond rfl (fun c5 => ?_) (fun c5 => ?_)
 ·skip
  have c5r := c5
  try simp only [Bool.not_eq_true', Bool.not_eq_false', Bool.not_true, Bool.not_false, decide_eq_true_eq, decide_eq_false_iff_not, Bool.and_eq_true, Bool.or_eq_false_iff] at c5
  refine kc_seq (kc_region ?_)
  refine kl_as rfl ?_
  refine kl_nil (kq_code ?_)
  refine kc_ret ?_
  exact kq_ret rfl rfl noHp (fr_no _) (by rw [margI_no (by assumption)]; exact Sl.nil)
 ·skip
  have c5r := c5
  try simp only [Bool.not_eq_true', Bool.not_eq_false', Bool.not_true, Bool.not_false, decide_eq_true_eq, decide_eq_false_iff_not, Bool.and_eq_true, Bool.or_eq_false_iff] at c5
  have hM : MOk m := ⟨by simpa using c5r⟩
  have hv := hM.v
  have hn := hM.n
  have hfw := sols_few hM
  refine kc_skipQ ?_
  refine kq_code ?_
  refine kc_seq (kc_region ?_)
  refine kl_ldS rfl (by assumption) rfl ?_
  refine kl_call rfl rfl (solve_ok m hM (by assumption) (by assumption)) (fun v6 H7 f8 h9 => ?_)
  obtain ⟨z12, z15, u13, rfl, h14, h11⟩ := h9
  subst h11
  refine kl_mv rfl ?_
  refine kl_xt rfl rfl ?_
  refine kl_xt rfl rfl ?_
  refine kl_as rfl ?_
  refine kl_as rfl ?_
  refine kl_nil (kq_code (kc_seq (kc_region ?_)))
  refine kl_bs0 RowV rfl (fun v16 H17 f18 o19 => ?_)
  refine kl_as rfl ?_
  refine kl_nil (kq_code ?_)
  refine kc_seq ?_
  refine kc_seq (kc_region ?_)
  refine kl_as rfl ?_
  refine kl_nil (kq_code ?_)
  refine kc_block ?_
  refine kc_loopK (A := Nat × List (List Int) × Value × Hp × Hp) (fun zz => (zz.1 ≤ m.doms.length) ∧ (zz.2.1 = margTo (sols m) zz.1) ∧ Fr B zz.2.2.2.2 ∧ OwnL 22 1 zz.2.2.2.1 zz.2.2.2.2 RowV zz.2.2.1 zz.2.1 ∧ Fr B zz.2.2.2.1) (fun zz => m.doms.length - zz.1) (fun zz => zz.2.2.2.2) (fun zz => [zz.2.2.2.1]) (fun zz => [(6, .int .i64 (zz.1 : Int)), (5, zz.2.2.1)]) (0, ([]), v16, H17, noHp) (pc 1 rfl (pc 2 rfl (pc 3 rfl pn))) (pc 6 rfl (pc 5 rfl pn)) rfl ⟨Nat.zero_le _, rfl, (fr_no _), o19, f18⟩ ?_
  rintro ⟨k, out, v25, H22, K26⟩ hJ28
  obtain ⟨hk20, hi21, f27, o23, f24⟩ : (k ≤ m.doms.length) ∧ (out = margTo (sols m) k) ∧ Fr B K26 ∧ OwnL 22 1 H22 K26 RowV v25 out ∧ Fr B H22 := hJ28
  change KC _ _ (K26 :: _) [H22] _ ([(6, .int .i64 (k : Int)), (5, v25)] ++ _)
  have hol : out.length = k := (by rw [hi21]; exact margTo_len _ _)
  refine kc_seq ?_
  refine kc_seq (kc_region ?_)
  refine kl_mv rfl ?_
  refine kl_fd rfl (by assumption) (fun p29 a30 => ?_)
  refine kl_ld rfl (by assumption) ?_
  refine kl_len rfl (by assumption) (fun l31 => ?_)
  refine kl_lss rfl rfl ?_
  refine kl_nil (kq_code ?_)
  refine kc_if rfl (fun c32 => ?_) (fun c32 => ?_)
  ·skip
   refine kc_skipQ ?_
   refine kq_code ?_
   refine kc_seq ?_
   refine kc_block ?_
   refine kc_seq (kc_region ?_)
   refine kl_mkL (R := IntV) (0 : Int) rfl rfl (by first | omega | decide) (by decide) (by exact rfl) (fun v33 H34 f35 o36 => ?_)
   refine kl_as rfl ?_
   refine kl_nil (kq_code ?_)
   refine kc_seq ?_
   refine kc_seq (kc_region ?_)
   refine kl_as rfl ?_
   refine kl_nil (kq_code ?_)
   refine kc_block ?_
   refine kc_loopL (A := Nat × List Int × Hp) (fun zz => (zz.1 ≤ (sols m).length) ∧ (zz.2.1 = cntRow ((sols m).take zz.1) k) ∧ OwnL 3 1 zz.2.2 noHp IntV v33 zz.2.1 ∧ Fr B zz.2.2) (fun zz => (sols m).length - zz.1) (fun zz => [zz.2.2, H22]) (fun zz => [(8, .int .i64 (zz.1 : Int))]) (0, (List.replicate 6 (0 : Int)), H34) (pc 1 rfl (pc 2 rfl (pc 3 rfl (pc 5 rfl (pc 6 rfl (pc 7 rfl (pc 18 rfl (pc 19 rfl (pc 20 rfl (pc 21 rfl (pc 22 rfl (pc 25 rfl pn)))))))))))) (pc 8 rfl pn) rfl ⟨Nat.zero_le _, (cntRow_0 k).symm, o36, f35⟩ ?_
   rintro ⟨k2, row, H39⟩ hJ42
   obtain ⟨hk37, hi38, o40, f41⟩ : (k2 ≤ (sols m).length) ∧ (row = cntRow ((sols m).take k2) k) ∧ OwnL 3 1 H39 noHp IntV v33 row ∧ Fr B H39 := hJ42
   change KC _ _ (_) [H39, H22] _ ([(8, .int .i64 (k2 : Int))] ++ _)
   refine kc_seq ?_
   refine kc_seq (kc_region ?_)
   refine kl_mv rfl ?_
   refine kl_mv rfl ?_
   refine kl_len rfl (by assumption) (fun l43 => ?_)
   refine kl_lss rfl rfl ?_
   refine kl_nil (kq_code ?_)
   refine kc_if rfl (fun c44 => ?_) (fun c44 => ?_)
   ·skip
    have hsl := sols_len (getD_mem (d := []) (by omega : k2 < (sols m).length))
    have hv5 := (sols_vals (getD_mem (d := []) (by omega : k2 < (sols m).length))).at (k := k) (by omega)
    have hrl : row.length = 6 := (by rw [hi38]; exact cntRow_len _ _)
    have hc5 := cntAt_le ((sols m).take k2) k (((sols m).getD k2 []).getD k 0)
    rw [← cntRow_at hv5, ← hi38, List.length_take] at hc5
    refine kc_skipQ ?_
    refine kq_code ?_
    refine kc_seq ?_
    refine kc_block ?_
    refine kc_tree (fun i => ([20] : List Nat).contains i) [H39] (by kernel_rfl) ?_
    refine kt_q 0 (.cons_cons _ (List.nil_sublist _)) rfl (by kernel_rfl) ?_
    refine kl_mv rfl ?_
    refine kl_nil (kq_q ?_)
    refine kt_q 1 (.cons_cons _ (List.nil_sublist _)) rfl (by kernel_rfl) ?_
    refine kl_mv rfl ?_
    refine kl_nil (kq_q ?_)
    refine kt_q 2 (.cons_cons _ (List.nil_sublist _)) rfl (by kernel_rfl) ?_
    refine kl_mv rfl ?_
    refine kl_nil (kq_q ?_)
    refine kt_q 3 (.cons_cons _ (List.nil_sublist _)) rfl (by kernel_rfl) ?_
    refine kl_inS rfl rfl (by assumption) (by omega) (fun p45 u47 h48 a46 => ?_)
    refine kl_nil (kq_q ?_)
    refine kt_q 4 (.cons_cons _ (List.nil_sublist _)) rfl (by kernel_rfl) ?_
    refine kl_ld rfl (by assumption) ?_
    refine kl_nil (kq_q ?_)
    refine kt_q 5 (.cons_cons _ (List.nil_sublist _)) rfl (by kernel_rfl) ?_
    refine kl_mv rfl ?_
    refine kl_nil (kq_q ?_)
    refine kt_q 6 (.cons_cons _ (List.nil_sublist _)) rfl (by kernel_rfl) ?_
    refine kl_inI rfl rfl (by assumption) (by omega) (fun p49 a50 => ?_)
    refine kl_nil (kq_q ?_)
    refine kt_q 7 (.cons_cons _ (List.nil_sublist _)) rfl (by kernel_rfl) ?_
    refine kl_ld rfl (by assumption) ?_
    refine kl_nil (kq_q ?_)
    refine kt_q 8 (.cons_cons _ (List.nil_sublist _)) rfl (by kernel_rfl) ?_
    refine kl_mv rfl ?_
    refine kl_nil (kq_q ?_)
    refine kt_q 9 (.cons_cons _ (List.nil_sublist _)) rfl (by kernel_rfl) ?_
    refine kl_mv rfl ?_
    refine kl_nil (kq_q ?_)
    refine kt_q 10 (.cons_cons _ (List.nil_sublist _)) rfl (by kernel_rfl) ?_
    refine kl_mv rfl ?_
    refine kl_nil (kq_q ?_)
    refine kt_q 11 (.cons_cons _ (List.nil_sublist _)) rfl (by kernel_rfl) ?_
    refine kl_inS rfl rfl (by assumption) (by omega) (fun p51 u53 h54 a52 => ?_)
    refine kl_nil (kq_q ?_)
    refine kt_q 12 (.cons_cons _ (List.nil_sublist _)) rfl (by kernel_rfl) ?_
    refine kl_ld rfl (by assumption) ?_
    refine kl_nil (kq_q ?_)
    refine kt_q 13 (.cons_cons _ (List.nil_sublist _)) rfl (by kernel_rfl) ?_
    refine kl_mv rfl ?_
    refine kl_nil (kq_q ?_)
    refine kt_q 14 (.cons_cons _ (List.nil_sublist _)) rfl (by kernel_rfl) ?_
    refine kl_inI rfl rfl (by assumption) (by omega) (fun p55 a56 => ?_)
    refine kl_nil (kq_q ?_)
    refine kt_q 15 (.cons_cons _ (List.nil_sublist _)) rfl (by kernel_rfl) ?_
    refine kl_ld rfl (by assumption) ?_
    refine kl_nil (kq_q ?_)
    refine kt_q 16 (.cons_cons _ (List.nil_sublist _)) rfl (by kernel_rfl) ?_
    refine kl_ixL rfl rfl (by assumption) (by omega) (by omega) (fun p57 q58 => ?_)
    refine kl_nil (kq_q ?_)
    refine kt_q 17 (.cons_cons _ (List.nil_sublist _)) rfl (by kernel_rfl) ?_
    refine kl_ldLIe rfl (by assumption) (by assumption) (by omega) ?_
    refine kl_nil (kq_q ?_)
    refine kt_q 18 (.cons_cons _ (List.nil_sublist _)) rfl (by kernel_rfl) ?_
    refine kl_add rfl rfl (by omega) ?_
    refine kl_nil (kq_q ?_)
    refine kt_q 19 (.cons_cons _ (List.nil_sublist _)) rfl (by kernel_rfl) ?_
    refine kl_ixL rfl rfl (by assumption) (by omega) (by omega) (fun p59 q60 => ?_)
    refine kl_nil (kq_q ?_)
    refine kt_a 20 rfl (by kernel_rfl) ?_
    refine kl_stL ((row.getD ((((sols m).getD k2 []).getD k 0).toNat) 0) + (1 : Int)) rfl rfl (by assumption) o40 (by omega) rfl rfl rfl (fun H61 o62 f63 => ?_)
    have f64 := f63 _ f41
    refine kl_chg [H61, H22] rfl ?_
    refine kl_nil (kq_x rfl ?_)
    refine kt_end (by kernel_rfl) ?_
    refine kq_code ?_
    refine kc_region ?_
    refine kl_mv rfl ?_
    refine kl_inc rfl rfl (by omega) ?_
    refine kl_as rfl ?_
    refine kl_nil ?_
    refine kq_take [H61, H22] ?_
    refine kq_roundL ((k2 + 1), (row.set ((((sols m).getD k2 []).getD k 0).toNat) ((row.getD ((((sols m).getD k2 []).getD k 0).toNat) 0) + (1 : Int))), H61) (by omega) (⟨by omega, (by rw [take_succ_getD [] (by omega : k2 < (sols m).length), hi38]; exact cntRow_step hv5), o62, f64⟩) (pc 8 rfl pn) (pc 1 rfl (pc 2 rfl (pc 3 rfl (pc 5 rfl (pc 6 rfl (pc 7 rfl (pc 18 rfl (pc 19 rfl (pc 20 rfl (pc 21 rfl (pc 22 rfl (pc 25 rfl pn)))))))))))) rfl (List.Sublist.refl _)
   ·skip
    refine kc_exit ?_
    refine kq_code ?_
    refine kc_region ?_
    refine kl_mv rfl ?_
    refine kl_mv rfl ?_
    refine kl_bs rfl rfl rfl (by decide) (ca (by first | exact Sl.cells (by assumption) | exact OwnL.cells (by assumption)) ca_nil) (fun v65 H66 f67 r68 s69 => ?_)
    refine kl_frz H39 ?_
    have h70 := OwnL.ints o40
    refine kl_cmp K26 H39 (fun c71 => ?_)
    have o72 := OwnL.mono (K' := orHp K26 H39) o23 orL
    refine kl_apL row rfl rfl o72 (by assumption) ⟨_, rfl, Sl.mono (by assumption) (orC c71) (fun _ _ h => h)⟩ (oc (OwnL.oneCell (by assumption)) oc_nil) (by omega) (by decide) (fun v73 H74 o75 f76 => ?_)
    have f77 := f76 B f24 (Nat.le_refl _)
    refine kl_as rfl ?_
    refine kl_nil (kq_code ?_)
    refine kc_region ?_
    refine kl_mv rfl ?_
    refine kl_inc rfl rfl (by omega) ?_
    refine kl_as rfl ?_
    refine kl_nil ?_
    refine kq_take [H74] ?_
    refine kq_roundK ((k + 1), (out ++ [row]), v73, H74, (orHp K26 H39)) (by omega) (⟨by omega, (by rw [hi21, show row = cntRow (sols m) k from (by rw [hi38, List.take_of_length_le (by omega)])]; exact (margTo_succ _ _).symm), (fr_or f27 f41), o75, f77⟩) (pc 6 rfl (pc 5 rfl pn)) (pc 1 rfl (pc 2 rfl (pc 3 rfl pn))) rfl (List.Sublist.refl _)
  ·skip
   refine kc_exit ?_
   refine kq_code ?_
   refine kc_seq (kc_region ?_)
   refine kl_mv rfl ?_
   refine kl_as rfl ?_
   refine kl_nil (kq_code ?_)
   refine kc_ret ?_
   refine kq_cmp H22 K26 (fun c78 => ?_)
   have e9 : out = margI m := by (rw [hi21, show k = m.doms.length from by omega, margI_yes hM.v])
   exact kq_ret rfl rfl (orHp H22 K26) (fr_or f24 f27) (e9 ▸ OwnL.rowsK o23 c78)
theorem drawMg_ok {Hcode : Hp} {vcode : Value} (code : List Int) (hcode : Bytes Hcode vcode code) : Spec Tryz.prog 24 [vcode] [Hcode] (fun Hq vq => ∃ mq : Mod, ModR Hq vq mq ∧ ModSm 100 mq) := by
 refine spec_of Tryz.func24 rfl rfl rfl (fun B => ?_)
 refine kc_seq (kc_region ?_)
 refine kl_alloc (cs := [.slice none 0 0, .slice none 0 0]) rfl (fun b1 hb2 => ?_)
 refine kl_nil (kq_code (kc_seq (kc_region ?_)))
 refine kl_mv rfl ?_
 refine kl_callT rfl rfl (newReader_ok code hcode) (fun v3 L1 Ln K7 h4 f5 f6 => ?_)
 obtain ⟨rfl, b8, v9, x10, rfl, rfl, h11⟩ := h4
 refine kl_norm ?_
 refine kl_callT rfl rfl (anyModel_ok 0 (by omega) h11) (fun v12 L1 Ln K16 h13 f14 f15 => ?_)
 obtain ⟨q17, h18, rfl, H21, M23, v24, v25, z19, rfl, rfl, o22, o26, h20⟩ := h13
 have f27 := f14 _ (.head _)
 have f28 := f14 _ (.tail _ (.head _))
 refine kl_norm ?_
 refine kl_stW (us := [v24, v25]) rfl rfl rfl rfl (oc (OwnL.oneCell (by assumption)) (oc (OwnL.oneCell (by assumption)) oc_nil)) rfl ?_
 refine kl_chg [sing b8 (.cells [v9, .int .i64 (q17 : Int)].toArray 113 (0, 0)), H21, M23, sing b1 (.cells [v24, v25].toArray 32 (0, 0))] rfl ?_
 refine kl_nil (kq_code ?_)
 refine kc_ret ?_
 refine kq_frz H21 ?_
 refine kq_frz M23 ?_
 refine kq_cmp M23 K16 (fun c29 => ?_)
 refine kq_cmp H21 (orHp M23 K16) (fun c30 => ?_)
 exact kq_retC rfl rfl rfl (orHp H21 (orHp M23 K16)) (fr_or f27 (fr_or f28 f15)) ⟨(⟨z19.doms, z19.cons⟩ : Mod), ⟨_, _, rfl, (Sl.mono (OwnL.ints o22) (fun b o h => orL b o h) (fun _ _ h => h)), (Cons.mono' (OwnL.consK o26 c29) (fun b o h => orC c30 b o h))⟩, by assumption⟩
theorem lawFnMg_ok {Hcode : Hp} {vcode : Value} (code : List Int) (hcode : Bytes Hcode vcode code) : SpecP Tryz.prog 6 [vcode] [Hcode] (.bool true) := by
 refine spec_of Tryz.func6 rfl rfl rfl (fun B => ?_)
 refine kc_seq (kc_region ?_)
 refine kl_as rfl ?_
 refine kl_nil (kq_code ?_)
 refine kc_seq ?_
 refine kc_seq (kc_region ?_)
 refine kl_mv rfl ?_
 refine kl_len rfl (by assumption) (fun l1 => ?_)
 refine kl_gtr rfl rfl ?_
 refine kl_nil (kq_code ?_)
 refine kc_if rfl (fun c2 => ?_) (fun c2 => ?_)
 ·skip
  refine kc_seq (kc_region ?_)
  refine kl_as rfl ?_
  refine kl_nil (kq_code ?_)
  refine kc_ret ?_
  refine kq_retP rfl rfl (congrArg Value.bool ?_)
  first | (rw [hml]; simp; done) | rfl | (simp; done) | exact (mg_no1 hM (v := k) (a := a) (by omega) (by omega) (by assumption)).elim | exact (mg_no2 hM (v := k) (a := a) (by omega) (by omega) (by assumption)).elim
 ·skip
  refine kc_skipQ ?_
  refine kq_code ?_
  refine kc_seq (kc_region ?_)
  refine kl_mv rfl ?_
  refine kl_call rfl rfl (drawMg_ok code hcode) (fun v3 H4 f5 h6 => ?_)
  obtain ⟨z7, ⟨u9, u10, rfl, h11, h12⟩, h8⟩ := h6
  refine kl_alloc (cs := [.slice none 0 0, .slice none 0 0]) rfl (fun b13 hb14 => ?_)
  refine kl_stW (us := [u9, u10]) rfl rfl rfl rfl (oc (Sl.oneCell (by assumption)) (oc (Sl.oneCell (by assumption)) oc_nil)) rfl ?_
  refine kl_chg [sing b13 (.cells [u9, u10].toArray 32 (0, 0))] rfl ?_
  refine kl_nil (kq_code (kc_seq (kc_region ?_)))
  refine kl_ldW rfl rfl ?_
  refine kl_call rfl rfl ((margImp_ok z7 (by assumption) (by assumption)).mono (fun _ _ h => MatR.rows h)) (fun v15 H16 f17 h18 => ?_)
  refine kl_as rfl ?_
  refine kl_nil (kq_code ?_)
  refine kc_seq ?_
  refine kc_seq (kc_region ?_)
  refine kl_mv rfl ?_
  refine kl_ldW rfl rfl ?_
  refine kl_call rfl rfl (margSg_ok z7 (by assumption) (by assumption)) (fun v19 H20 f21 h22 => ?_)
  refine kl_callP rfl rfl (equalLists_ok (margI z7) (margI z7) (by assumption) (by assumption)) ?_
  refine kl_not rfl ?_
  refine kl_mv rfl ?_
  refine kl_join 4 25 (.bool (!(decide ((margI z7) = (margI z7))) || decide (((margI z7).length : Int) = (0 : Int)))) (pc 2 rfl (pc 3 rfl (pc 4 rfl (pc 21 rfl pn)))) (fun J25 => ?_) ?_
  ·rcases Bool.eq_false_or_eq_true (!(decide ((margI z7) = (margI z7)))) with g23 | g23
   ·skip
    refine kl_gF rfl rfl g23 ?_
    refine kl_gF rfl rfl g23 ?_
    refine kl_gF rfl rfl g23 ?_
    refine kl_orT (decide (((margI z7).length : Int) = (0 : Int))) rfl rfl g23 ?_
    exact J25 _ (pc 25 rfl (pc 2 rfl (pc 3 rfl (pc 4 rfl (pc 21 rfl pn)))))
   ·skip
    have g23p := g23
    try simp only [Bool.not_eq_true', Bool.not_eq_false', decide_eq_true_eq, decide_eq_false_iff_not, Bool.and_eq_true, Bool.or_eq_false_iff, withinB_iff] at g23p
    refine kl_gT rfl rfl g23 ?_
    refine kl_mv rfl ?_
    refine kl_gT rfl rfl g23 ?_
    refine kl_len rfl (by assumption) (fun l24 => ?_)
    refine kl_gT rfl rfl g23 ?_
    refine kl_eql rfl rfl ?_
    refine kl_orF rfl rfl g23 ?_
    exact J25 _ (pc 25 rfl (pc 2 rfl (pc 3 rfl (pc 4 rfl (pc 21 rfl pn)))))
  refine kl_nil (kq_code ?_)
  refine kc_cond rfl (fun c26 => ?_) (fun c26 => ?_)
  ·skip
   have c26r := c26
   try simp only [Bool.not_eq_true', Bool.not_eq_false', Bool.not_true, Bool.not_false, decide_eq_true_eq, decide_eq_false_iff_not, Bool.and_eq_true, Bool.or_eq_false_iff] at c26
   refine kc_seq (kc_region ?_)
   refine kl_mv rfl ?_
   refine kl_ldW rfl rfl ?_
   refine kl_call rfl rfl (margSg_ok z7 (by assumption) (by assumption)) (fun v27 H28 f29 h30 => ?_)
   refine kl_callP rfl rfl (equalLists_ok (margI z7) (margI z7) (by assumption) (by assumption)) ?_
   refine kl_as rfl ?_
   refine kl_nil (kq_code ?_)
   refine kc_ret ?_
   refine kq_retP rfl rfl (congrArg Value.bool ?_)
   first | (rw [hml]; simp; done) | rfl | (simp; done) | exact (mg_no1 hM (v := k) (a := a) (by omega) (by omega) (by assumption)).elim | exact (mg_no2 hM (v := k) (a := a) (by omega) (by omega) (by assumption)).elim
  ·skip
   have c26r := c26
   try simp only [Bool.not_eq_true', Bool.not_eq_false', Bool.not_true, Bool.not_false, decide_eq_true_eq, decide_eq_false_iff_not, Bool.and_eq_true, Bool.or_eq_false_iff] at c26
   have hM := marg_g c26r
   have hn := hM.n
   have hml := marg_len hM
   have hbl := (backI_ok hM).l
   have hfw := sols_few hM
   refine kc_skipQ ?_
   refine kq_code ?_
   refine kc_seq (kc_region ?_)
   refine kl_ldW rfl rfl ?_
   refine kl_call rfl rfl (backboneI_ok z7 (by assumption) (by assumption)) (fun v31 H32 f33 h34 => ?_)
   refine kl_as rfl ?_
   refine kl_nil (kq_code ?_)
   refine kc_seq ?_
   refine kc_seq (kc_region ?_)
   refine kl_as rfl ?_
   refine kl_nil (kq_code ?_)
   refine kc_block ?_
   refine kc_loop0 (A := Nat) (fun zz => (zz ≤ (margI z7).length)) (fun zz => (margI z7).length - zz) (fun zz => [(6, .int .i64 (zz : Int))]) (0) (pc 3 rfl (pc 4 rfl (pc 5 rfl pn))) (pc 6 rfl pn) (Nat.zero_le _) ?_
   rintro k hJ37
   have hk35 : (k ≤ (margI z7).length) := hJ37
   change KC _ _ (_) _ _ ([(6, .int .i64 (k : Int))] ++ _)
   refine kc_seq ?_
   refine kc_seq (kc_region ?_)
   refine kl_mv rfl ?_
   refine kl_mv rfl ?_
   refine kl_len rfl (by assumption) (fun l38 => ?_)
   refine kl_lss rfl rfl ?_
   refine kl_nil (kq_code ?_)
   refine kc_if rfl (fun c39 => ?_) (fun c39 => ?_)
   ·skip
    have hra := marg_at hM (v := k) (by omega)
    have hrl := congrArg List.length hra
    rw [cntRow_len] at hrl
    refine kc_skipQ ?_
    refine kq_code ?_
    refine kc_seq ?_
    refine kc_block ?_
    refine kc_seq (kc_region ?_)
    refine kl_as rfl ?_
    refine kl_nil (kq_code ?_)
    refine kc_seq ?_
    refine kc_seq (kc_region ?_)
    refine kl_as rfl ?_
    refine kl_nil (kq_code ?_)
    refine kc_block ?_
    refine kc_loop0 (A := Nat × Int) (fun zz => (zz.1 ≤ ((margI z7).getD k []).length) ∧ (zz.2 = rowTo (cntRow (sols z7) k) zz.1)) (fun zz => ((margI z7).getD k []).length - zz.1) (fun zz => [(8, .int .i64 (zz.1 : Int)), (7, .int .i64 zz.2)]) (0, (0 : Int)) (pc 3 rfl (pc 4 rfl (pc 5 rfl (pc 6 rfl (pc 32 rfl (pc 33 rfl (pc 34 rfl (pc 35 rfl pn)))))))) (pc 8 rfl (pc 7 rfl pn)) ⟨Nat.zero_le _, rfl⟩ ?_
    rintro ⟨a, s⟩ hJ42
    obtain ⟨hk40, hi41⟩ : (a ≤ ((margI z7).getD k []).length) ∧ (s = rowTo (cntRow (sols z7) k) a) := hJ42
    change KC _ _ (_) _ _ ([(8, .int .i64 (a : Int)), (7, .int .i64 s)] ++ _)
    have hs1 := rowTo_in (xs := sols z7) (v := k) (k := a) (by omega) hfw
    rw [← hi41] at hs1
    refine kc_seq ?_
    refine kc_seq (kc_region ?_)
    refine kl_mv rfl ?_
    refine kl_mv rfl ?_
    refine kl_mv rfl ?_
    refine kl_inS rfl rfl (by assumption) (by omega) (fun p43 u45 h46 a44 => ?_)
    refine kl_ld rfl (by assumption) ?_
    refine kl_len rfl (by assumption) (fun l47 => ?_)
    refine kl_lss rfl rfl ?_
    refine kl_nil (kq_code ?_)
    refine kc_if rfl (fun c48 => ?_) (fun c48 => ?_)
    ·skip
     have he1 := ent_in hM (v := k) (a := a) (by omega) (by omega)
     refine kc_skipQ ?_
     refine kq_code ?_
     refine kc_seq ?_
     refine kc_block ?_
     refine kc_seq (kc_region ?_)
     refine kl_mv rfl ?_
     refine kl_mv rfl ?_
     refine kl_mv rfl ?_
     refine kl_inS rfl rfl (by assumption) (by omega) (fun p49 u51 h52 a50 => ?_)
     refine kl_ld rfl (by assumption) ?_
     refine kl_mv rfl ?_
     refine kl_inI rfl rfl (by assumption) (by omega) (fun p53 a54 => ?_)
     refine kl_ld rfl (by assumption) ?_
     refine kl_add rfl rfl (by omega) ?_
     refine kl_as rfl ?_
     refine kl_nil (kq_code ?_)
     refine kc_seq ?_
     refine kc_tree (fun i => ([] : List Nat).contains i) [sing b13 (.cells [u9, u10].toArray 32 (0, 0))] (by kernel_rfl) ?_
     refine kt_q 0 (.cons_cons _ (List.nil_sublist _)) rfl (by kernel_rfl) ?_
     refine kl_mv rfl ?_
     refine kl_nil (kq_q ?_)
     refine kt_q 1 (.cons_cons _ (List.nil_sublist _)) rfl (by kernel_rfl) ?_
     refine kl_mv rfl ?_
     refine kl_nil (kq_q ?_)
     refine kt_q 2 (.cons_cons _ (List.nil_sublist _)) rfl (by kernel_rfl) ?_
     refine kl_inS rfl rfl (by assumption) (by omega) (fun p55 u57 h58 a56 => ?_)
     refine kl_nil (kq_q ?_)
     refine kt_q 3 (.cons_cons _ (List.nil_sublist _)) rfl (by kernel_rfl) ?_
     refine kl_ld rfl (by assumption) ?_
     refine kl_nil (kq_q ?_)
     refine kt_q 4 (.cons_cons _ (List.nil_sublist _)) rfl (by kernel_rfl) ?_
     refine kl_mv rfl ?_
     refine kl_nil (kq_q ?_)
     refine kt_q 5 (.cons_cons _ (List.nil_sublist _)) rfl (by kernel_rfl) ?_
     refine kl_inI rfl rfl (by assumption) (by omega) (fun p59 a60 => ?_)
     refine kl_nil (kq_q ?_)
     refine kt_q 6 (.cons_cons _ (List.nil_sublist _)) rfl (by kernel_rfl) ?_
     refine kl_ld rfl (by assumption) ?_
     refine kl_nil (kq_q ?_)
     refine kt_q 7 (.cons_cons _ (List.nil_sublist _)) rfl (by kernel_rfl) ?_
     refine kl_gtr rfl rfl ?_
     refine kl_nil (kq_q ?_)
     refine kt_q 8 (.cons_cons _ (List.nil_sublist _)) rfl (by kernel_rfl) ?_
     refine kl_mv rfl ?_
     refine kl_nil (kq_q ?_)
     refine kt_q 9 (.cons_cons _ (List.nil_sublist _)) rfl (by kernel_rfl) ?_
     refine kl_mv rfl ?_
     refine kl_nil (kq_q ?_)
     refine kt_q 10 (.cons_cons _ (List.nil_sublist _)) rfl (by kernel_rfl) ?_
     refine kl_inI rfl rfl (by assumption) (by omega) (fun p61 a62 => ?_)
     refine kl_nil (kq_q ?_)
     refine kt_q 11 (.cons_cons _ (List.nil_sublist _)) rfl (by kernel_rfl) ?_
     refine kl_ld rfl (by assumption) ?_
     refine kl_nil (kq_q ?_)
     refine kt_q 12 (.cons_cons _ (List.nil_sublist _)) rfl (by kernel_rfl) ?_
     refine kl_mv rfl ?_
     refine kl_nil (kq_q ?_)
     refine kt_a 13 rfl (by kernel_rfl) ?_
     refine kl_callP rfl rfl (domainHasI_ok ((backI z7).getD k 0) (a : Int)) ?_
     refine kl_nil (kq_a (.cons_cons _ (List.nil_sublist _)) ?_)
     refine kt_q 14 (.cons_cons _ (List.nil_sublist _)) rfl (by kernel_rfl) ?_
     refine kl_bne rfl rfl ?_
     refine kl_nil (kq_q ?_)
     refine kt_q 15 (.cons_cons _ (List.nil_sublist _)) rfl (by kernel_rfl) ?_
     refine kl_mv rfl ?_
     refine kl_nil (kq_q ?_)
     rcases Bool.eq_false_or_eq_true (decide ((0 : Int) < (((margI z7).getD k []).getD a 0)) != (dhasB ((backI z7).getD k 0) (a : Int))) with g63 | g63
     ·skip
      have g63p := g63
      refine kt_q 16 (.cons_cons _ (List.nil_sublist _)) rfl (by kernel_rfl) ?_
      refine kl_gF rfl rfl g63 ?_
      refine kl_nil (kq_q ?_)
      refine kt_q 17 (.cons_cons _ (List.nil_sublist _)) rfl (by kernel_rfl) ?_
      refine kl_gF rfl rfl g63 ?_
      refine kl_nil (kq_q ?_)
      refine kt_q 18 (.cons_cons _ (List.nil_sublist _)) rfl (by kernel_rfl) ?_
      refine kl_gF rfl rfl g63 ?_
      refine kl_nil (kq_q ?_)
      refine kt_q 19 (.cons_cons _ (List.nil_sublist _)) rfl (by kernel_rfl) ?_
      refine kl_gF rfl rfl g63 ?_
      refine kl_nil (kq_q ?_)
      refine kt_q 20 (.cons_cons _ (List.nil_sublist _)) rfl (by kernel_rfl) ?_
      refine kl_gF rfl rfl g63 ?_
      refine kl_nil (kq_q ?_)
      refine kt_q 21 (.cons_cons _ (List.nil_sublist _)) rfl (by kernel_rfl) ?_
      refine kl_gF rfl rfl g63 ?_
      refine kl_nil (kq_q ?_)
      refine kt_q 22 (.cons_cons _ (List.nil_sublist _)) rfl (by kernel_rfl) ?_
      refine kl_gF rfl rfl g63 ?_
      refine kl_nil (kq_q ?_)
      refine kt_q 23 (.cons_cons _ (List.nil_sublist _)) rfl (by kernel_rfl) ?_
      refine kl_gF rfl rfl g63 ?_
      refine kl_nil (kq_q ?_)
      refine kt_q 24 (.cons_cons _ (List.nil_sublist _)) rfl (by kernel_rfl) ?_
      refine kl_gF rfl rfl g63 ?_
      refine kl_nil (kq_q ?_)
      refine kt_q 25 (.cons_cons _ (List.nil_sublist _)) rfl (by kernel_rfl) ?_
      refine kl_gF rfl rfl g63 ?_
      refine kl_nil (kq_q ?_)
      refine kt_a 26 rfl (by kernel_rfl) ?_
      refine kl_gF rfl rfl g63 ?_
      refine kl_nil (kq_a (.cons_cons _ (List.nil_sublist _)) ?_)
      refine kt_a 27 rfl (by kernel_rfl) ?_
      refine kl_gF rfl rfl g63 ?_
      refine kl_nil (kq_a (.cons_cons _ (List.nil_sublist _)) ?_)
      refine kt_a 28 rfl (by kernel_rfl) ?_
      refine kl_gF rfl rfl g63 ?_
      refine kl_nil (kq_a (.cons_cons _ (List.nil_sublist _)) ?_)
      refine kt_q 29 (.cons_cons _ (List.nil_sublist _)) rfl (by kernel_rfl) ?_
      refine kl_gF rfl rfl g63 ?_
      refine kl_nil (kq_q ?_)
      refine kt_q 30 (.cons_cons _ (List.nil_sublist _)) rfl (by kernel_rfl) ?_
      refine kl_pickT rfl g63 rfl ?_
      refine kl_nil (kq_q ?_)
      refine kt_end (by kernel_rfl) ?_
      refine kq_code ?_
      refine kc_cond rfl (fun c64 => ?_) (fun c64 => ?_)
      ·skip
       have c64r := c64
       try simp only [Bool.not_eq_true', Bool.not_eq_false', Bool.not_true, Bool.not_false, decide_eq_true_eq, decide_eq_false_iff_not, Bool.and_eq_true, Bool.or_eq_false_iff] at c64
       refine kc_seq (kc_region ?_)
       refine kl_as rfl ?_
       refine kl_nil (kq_code ?_)
       refine kc_ret ?_
       refine kq_retP rfl rfl (congrArg Value.bool ?_)
       first | (rw [hml]; simp; done) | rfl | (simp; done) | exact (mg_no1 hM (v := k) (a := a) (by omega) (by omega) (by assumption)).elim | exact (mg_no2 hM (v := k) (a := a) (by omega) (by omega) (by assumption)).elim
      ·skip
       have c64r := c64
       try simp only [Bool.not_eq_true', Bool.not_eq_false', Bool.not_true, Bool.not_false, decide_eq_true_eq, decide_eq_false_iff_not, Bool.and_eq_true, Bool.or_eq_false_iff] at c64
       exact absurd c64 (by decide)
     ·skip
      have g63p := g63
      refine kt_q 16 (.cons_cons _ (List.nil_sublist _)) rfl (by kernel_rfl) ?_
      refine kl_gT rfl rfl g63 ?_
      refine kl_mv rfl ?_
      refine kl_nil (kq_q ?_)
      refine kt_q 17 (.cons_cons _ (List.nil_sublist _)) rfl (by kernel_rfl) ?_
      refine kl_gT rfl rfl g63 ?_
      refine kl_mv rfl ?_
      refine kl_nil (kq_q ?_)
      refine kt_q 18 (.cons_cons _ (List.nil_sublist _)) rfl (by kernel_rfl) ?_
      refine kl_gT rfl rfl g63 ?_
      refine kl_inS rfl rfl (by assumption) (by omega) (fun p65 u67 h68 a66 => ?_)
      refine kl_nil (kq_q ?_)
      refine kt_q 19 (.cons_cons _ (List.nil_sublist _)) rfl (by kernel_rfl) ?_
      refine kl_gT rfl rfl g63 ?_
      refine kl_ld rfl (by assumption) ?_
      refine kl_nil (kq_q ?_)
      refine kt_q 20 (.cons_cons _ (List.nil_sublist _)) rfl (by kernel_rfl) ?_
      refine kl_gT rfl rfl g63 ?_
      refine kl_mv rfl ?_
      refine kl_nil (kq_q ?_)
      refine kt_q 21 (.cons_cons _ (List.nil_sublist _)) rfl (by kernel_rfl) ?_
      refine kl_gT rfl rfl g63 ?_
      refine kl_inI rfl rfl (by assumption) (by omega) (fun p69 a70 => ?_)
      refine kl_nil (kq_q ?_)
      refine kt_q 22 (.cons_cons _ (List.nil_sublist _)) rfl (by kernel_rfl) ?_
      refine kl_gT rfl rfl g63 ?_
      refine kl_ld rfl (by assumption) ?_
      refine kl_nil (kq_q ?_)
      refine kt_q 23 (.cons_cons _ (List.nil_sublist _)) rfl (by kernel_rfl) ?_
      refine kl_gT rfl rfl g63 ?_
      refine kl_ldS rfl (at_box (T := 32) (cs := [u9, u10]) (off := 0) (fz := (0, 0))) rfl ?_
      refine kl_nil (kq_q ?_)
      refine kt_q 24 (.cons_cons _ (List.nil_sublist _)) rfl (by kernel_rfl) ?_
      refine kl_gT rfl rfl g63 ?_
      refine kl_mv rfl ?_
      refine kl_nil (kq_q ?_)
      refine kt_q 25 (.cons_cons _ (List.nil_sublist _)) rfl (by kernel_rfl) ?_
      refine kl_gT rfl rfl g63 ?_
      refine kl_mv rfl ?_
      refine kl_nil (kq_q ?_)
      refine kt_a 26 rfl (by kernel_rfl) ?_
      refine kl_gT rfl rfl g63 ?_
      refine kl_bd rfl (cp rfl (cp rfl cp_nil)) rfl ?_
      refine kl_nil (kq_a (.cons_cons _ (List.nil_sublist _)) ?_)
      refine kt_a 27 rfl (by kernel_rfl) ?_
      refine kl_gT rfl rfl g63 ?_
      refine kl_bsQ rfl (fun v71 H72 f73 r74 h75 => ?_)
      refine kl_nil (kq_a (.cons_cons _ (List.nil_sublist _)) ?_)
      refine kt_a 28 rfl (by kernel_rfl) ?_
      refine kl_gT rfl rfl g63 ?_
      refine kl_callP rfl rfl (cwImp_ok z7 ([(⟨(k : Int), (a : Int), false⟩ : Lit)]) (by assumption) (by assumption) (by assumption)) ?_
      refine kl_nil (kq_a (.cons_cons _ (List.nil_sublist _)) ?_)
      refine kt_q 29 (.cons_cons _ (List.nil_sublist _)) rfl (by kernel_rfl) ?_
      refine kl_gT rfl rfl g63 ?_
      refine kl_neq rfl rfl ?_
      refine kl_nil (kq_q ?_)
      refine kt_q 30 (.cons_cons _ (List.nil_sublist _)) rfl (by kernel_rfl) ?_
      refine kl_pickF rfl g63 rfl ?_
      refine kl_nil (kq_q ?_)
      refine kt_end (by kernel_rfl) ?_
      refine kq_code ?_
      refine kc_if rfl (fun c76 => ?_) (fun c76 => ?_)
      ·skip
       refine kc_seq (kc_region ?_)
       refine kl_as rfl ?_
       refine kl_nil (kq_code ?_)
       refine kc_ret ?_
       refine kq_retP rfl rfl (congrArg Value.bool ?_)
       first | (rw [hml]; simp; done) | rfl | (simp; done) | exact (mg_no1 hM (v := k) (a := a) (by omega) (by omega) (by assumption)).elim | exact (mg_no2 hM (v := k) (a := a) (by omega) (by omega) (by assumption)).elim
      ·skip
       refine kc_skipQ ?_
       refine kq_code ?_
       refine kc_region ?_
       refine kl_mv rfl ?_
       refine kl_inc rfl rfl (by omega) ?_
       refine kl_as rfl ?_
       refine kl_nil ?_
       refine kq_round0 ((a + 1), (s + (((margI z7).getD k []).getD a 0))) (by omega) (⟨by omega, (by rw [hra]; exact rowTo_step hi41 (by rw [cntRow_len]; omega))⟩) (pc 8 rfl (pc 7 rfl pn)) (pc 3 rfl (pc 4 rfl (pc 5 rfl (pc 6 rfl (pc 32 rfl (pc 33 rfl (pc 34 rfl (pc 35 rfl pn)))))))) (List.Sublist.refl _)
    ·skip
     refine kc_exit ?_
     refine kq_code ?_
     refine kc_seq (kc_region ?_)
     refine kl_mv rfl ?_
     refine kl_ldW rfl rfl ?_
     refine kl_callP rfl rfl (countSols_ok z7 (by assumption) (by assumption)) ?_
     refine kl_neq rfl rfl ?_
     refine kl_mv rfl ?_
     refine kl_join 7 98 (.bool (decide (s ≠ (cntI z7)) || decide ((((margI z7).getD k []).length : Int) ≠ (6 : Int)))) (pc 3 rfl (pc 4 rfl (pc 5 rfl (pc 6 rfl (pc 7 rfl (pc 8 rfl (pc 32 rfl (pc 33 rfl (pc 34 rfl (pc 35 rfl (pc 38 rfl (pc 39 rfl (pc 40 rfl (pc 41 rfl (pc 42 rfl (pc 43 rfl (pc 44 rfl (pc 87 rfl (pc 88 rfl (pc 89 rfl (pc 90 rfl (pc 91 rfl pn)))))))))))))))))))))) (fun J83 => ?_) ?_
     ·rcases Bool.eq_false_or_eq_true (decide (s ≠ (cntI z7))) with g77 | g77
      ·skip
       refine kl_gF rfl rfl g77 ?_
       refine kl_gF rfl rfl g77 ?_
       refine kl_gF rfl rfl g77 ?_
       refine kl_gF rfl rfl g77 ?_
       refine kl_gF rfl rfl g77 ?_
       refine kl_gF rfl rfl g77 ?_
       refine kl_orT (decide ((((margI z7).getD k []).length : Int) ≠ (6 : Int))) rfl rfl g77 ?_
       exact J83 _ (pc 98 rfl (pc 3 rfl (pc 4 rfl (pc 5 rfl (pc 6 rfl (pc 7 rfl (pc 8 rfl (pc 32 rfl (pc 33 rfl (pc 34 rfl (pc 35 rfl (pc 38 rfl (pc 39 rfl (pc 40 rfl (pc 41 rfl (pc 42 rfl (pc 43 rfl (pc 44 rfl (pc 87 rfl (pc 88 rfl (pc 89 rfl (pc 90 rfl (pc 91 rfl pn)))))))))))))))))))))))
      ·skip
       have g77p := of_decide_eq_false g77
       refine kl_gT rfl rfl g77 ?_
       refine kl_mv rfl ?_
       refine kl_gT rfl rfl g77 ?_
       refine kl_mv rfl ?_
       refine kl_gT rfl rfl g77 ?_
       refine kl_inS rfl rfl (by assumption) (by omega) (fun p78 u80 h81 a79 => ?_)
       refine kl_gT rfl rfl g77 ?_
       refine kl_ld rfl (by assumption) ?_
       refine kl_gT rfl rfl g77 ?_
       refine kl_len rfl (by assumption) (fun l82 => ?_)
       refine kl_gT rfl rfl g77 ?_
       refine kl_neq rfl rfl ?_
       refine kl_orF rfl rfl g77 ?_
       exact J83 _ (pc 98 rfl (pc 3 rfl (pc 4 rfl (pc 5 rfl (pc 6 rfl (pc 7 rfl (pc 8 rfl (pc 32 rfl (pc 33 rfl (pc 34 rfl (pc 35 rfl (pc 38 rfl (pc 39 rfl (pc 40 rfl (pc 41 rfl (pc 42 rfl (pc 43 rfl (pc 44 rfl (pc 87 rfl (pc 88 rfl (pc 89 rfl (pc 90 rfl (pc 91 rfl pn)))))))))))))))))))))))
     refine kl_nil (kq_code ?_)
     refine kc_cond rfl (fun c84 => ?_) (fun c84 => ?_)
     ·skip
      have c84r := c84
      try simp only [Bool.not_eq_true', Bool.not_eq_false', Bool.not_true, Bool.not_false, decide_eq_true_eq, decide_eq_false_iff_not, Bool.and_eq_true, Bool.or_eq_false_iff] at c84
      exact absurd c84r (by rw [mg_sum hM (by omega) hi41 (by omega), hrl]; simp)
     ·skip
      have c84r := c84
      try simp only [Bool.not_eq_true', Bool.not_eq_false', Bool.not_true, Bool.not_false, decide_eq_true_eq, decide_eq_false_iff_not, Bool.and_eq_true, Bool.or_eq_false_iff] at c84
      refine kc_skipQ ?_
      refine kq_code ?_
      refine kc_region ?_
      refine kl_mv rfl ?_
      refine kl_inc rfl rfl (by omega) ?_
      refine kl_as rfl ?_
      refine kl_nil ?_
      refine kq_round0 ((k + 1)) (by omega) (by omega) (pc 6 rfl pn) (pc 3 rfl (pc 4 rfl (pc 5 rfl pn))) (List.Sublist.refl _)
   ·skip
    refine kc_exit ?_
    refine kq_code ?_
    refine kc_seq (kc_region ?_)
    refine kl_mv rfl ?_
    refine kl_len rfl (by assumption) (fun l85 => ?_)
    refine kl_fdV rfl ?_
    refine kl_ldB rfl rfl ?_
    refine kl_len rfl (by assumption) (fun l86 => ?_)
    refine kl_eql rfl rfl ?_
    refine kl_as rfl ?_
    refine kl_nil (kq_code ?_)
    refine kc_ret ?_
    refine kq_retP rfl rfl (congrArg Value.bool ?_)
    first | (rw [hml]; simp; done) | rfl | (simp; done) | exact (mg_no1 hM (v := k) (a := a) (by omega) (by omega) (by assumption)).elim | exact (mg_no2 hM (v := k) (a := a) (by omega) (by omega) (by assumption)).elim
end Go.Proofs.YtbbphbihgikmdaaGreat
