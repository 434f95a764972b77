/- Walks of functions of the program: each returns what the plain function gives. Conditions: those that each statement names. -/
import Derived.Test.YtigngogjgohfgaaGreatWfix
import Derived.Test.YtigngogjgohfgaaGreatPureZ
namespace Go.Proofs.YtigngogjgohfgaaGreat
open Go
set_option linter.unusedSimpArgs false
set_option linter.unusedVariables false
theorem isNaN_ok (x : Int) : SpecP Tryz.prog 131 [.int .i64 x] [] (.bool false) := by
 refine spec_of Tryz.func131 rfl rfl rfl (fun B => ?_)
 refine kc_seq (kc_region ?_)
 refine kl_as rfl ?_
 refine kl_nil (kq_code (kc_seq (kc_region ?_)))
 refine kl_mv rfl ?_
 refine kl_mv rfl ?_
 refine kl_neq rfl rfl ?_
 refine kl_as rfl ?_
 refine kl_nil (kq_code ?_)
 refine kc_ret ?_
 refine kq_retP rfl rfl (congrArg Value.bool ?_)
 simp
theorem cmpInt_ok (a : Int) (b : Int) : SpecP Tryz.prog 109 [.int .i64 a, .int .i64 b] [] (.int .i64 (cmpI a b)) := by
 refine spec_of Tryz.func109 rfl rfl rfl (fun B => ?_)
 refine kc_seq (kc_region ?_)
 refine kl_as rfl ?_
 refine kl_nil (kq_code (kc_seq (kc_region ?_)))
 refine kl_mv rfl ?_
 refine kl_callP rfl rfl (isNaN_ok a) ?_
 refine kl_as rfl ?_
 refine kl_nil (kq_code (kc_seq (kc_region ?_)))
 refine kl_mv rfl ?_
 refine kl_callP rfl rfl (isNaN_ok b) ?_
 refine kl_as rfl ?_
 refine kl_nil (kq_code ?_)
 refine kc_seq ?_
 refine kc_seq (kc_region ?_)
 refine kl_mv rfl ?_
 refine kl_nil (kq_code ?_)
 refine kc_cond rfl (fun c1 => ?_) (fun c1 => ?_)
 ·skip
  have c1r := c1
  try simp only [Bool.not_eq_true', Bool.not_eq_false', Bool.not_true, Bool.not_false, decide_eq_true_eq, decide_eq_false_iff_not, Bool.and_eq_true, Bool.or_eq_false_iff] at c1
  exact absurd c1r (by decide)
 ·skip
  have c1r := c1
  try simp only [Bool.not_eq_true', Bool.not_eq_false', Bool.not_true, Bool.not_false, decide_eq_true_eq, decide_eq_false_iff_not, Bool.and_eq_true, Bool.or_eq_false_iff] at c1
  refine kc_skipQ ?_
  refine kq_code ?_
  refine kc_seq ?_
  refine kc_seq (kc_region ?_)
  refine kl_mv rfl ?_
  refine kl_nil (kq_code ?_)
  refine kc_cond rfl (fun c2 => ?_) (fun c2 => ?_)
  ·skip
   have c2r := c2
   try simp only [Bool.not_eq_true', Bool.not_eq_false', Bool.not_true, Bool.not_false, decide_eq_true_eq, decide_eq_false_iff_not, Bool.and_eq_true, Bool.or_eq_false_iff] at c2
   exact absurd c2r (by decide)
  ·skip
   have c2r := c2
   try simp only [Bool.not_eq_true', Bool.not_eq_false', Bool.not_true, Bool.not_false, decide_eq_true_eq, decide_eq_false_iff_not, Bool.and_eq_true, Bool.or_eq_false_iff] at c2
   refine kc_skipQ ?_
   refine kq_code ?_
   refine kc_seq ?_
   refine kc_seq (kc_region ?_)
   refine kl_mv rfl ?_
   refine kl_mv rfl ?_
   refine kl_lss rfl rfl ?_
   refine kl_nil (kq_code ?_)
   refine kc_if rfl (fun c3 => ?_) (fun c3 => ?_)
   ·skip
    refine kc_seq (kc_region ?_)
    refine kl_as rfl ?_
    refine kl_nil (kq_code ?_)
    refine kc_ret ?_
    refine kq_retP rfl rfl (congrArg (Value.int .i64) ?_)
    exact cmpI_1 (by assumption)
   ·skip
    refine kc_skipQ ?_
    refine kq_code ?_
    refine kc_seq ?_
    refine kc_seq (kc_region ?_)
    refine kl_mv rfl ?_
    refine kl_mv rfl ?_
    refine kl_gtr rfl rfl ?_
    refine kl_nil (kq_code ?_)
    refine kc_if rfl (fun c4 => ?_) (fun c4 => ?_)
    ·skip
     refine kc_seq (kc_region ?_)
     refine kl_as rfl ?_
     refine kl_nil (kq_code ?_)
     refine kc_ret ?_
     refine kq_retP rfl rfl (congrArg (Value.int .i64) ?_)
     exact cmpI_2 (by assumption) (by assumption)
    ·skip
     refine kc_skipQ ?_
     refine kq_code ?_
     refine kc_seq (kc_region ?_)
     refine kl_as rfl ?_
     refine kl_nil (kq_code ?_)
     refine kc_ret ?_
     refine kq_retP rfl rfl (congrArg (Value.int .i64) ?_)
     exact cmpI_3 (by assumption) (by assumption)
theorem cmpL_ok {Ha : Hp} {va : Value} {Hb : Hp} {vb : Value} (a : List Int) (b : List Int) (hl : a.length = b.length) (ha : Ints Ha va a) (hb : Ints Hb vb b) : SpecP Tryz.prog 71 [va, vb] [Ha, Hb] (.int .i64 (lexC a b)) := by
 refine spec_of Tryz.func71 rfl rfl rfl (fun B => ?_)
 refine kc_seq (kc_region ?_)
 refine kl_as rfl ?_
 refine kl_nil (kq_code ?_)
 refine kc_seq ?_
 refine kc_seq (kc_region ?_)
 refine kl_mv rfl ?_
 refine kl_len rfl (by assumption) (fun l1 => ?_)
 refine kl_mv rfl ?_
 refine kl_nil (kq_code ?_)
 refine kc_block ?_
 refine kc_loop0 (A := Nat) (fun zz => (zz ≤ a.length) ∧ (a.take zz = b.take zz)) (fun zz => a.length - zz) (fun zz => [(11, .int .i64 (zz : Int))]) (0) (pc 0 rfl (pc 1 rfl (pc 9 rfl (pc 10 rfl pn)))) (pc 11 rfl pn) ⟨Nat.zero_le _, rfl⟩ ?_
 rintro k hJ4
 obtain ⟨hk2, hi3⟩ : (k ≤ a.length) ∧ (a.take k = b.take k) := hJ4
 change KC _ _ (_) _ _ ([(11, .int .i64 (k : Int))] ++ _)
 refine kc_seq (kc_region ?_)
 refine kl_lss rfl rfl ?_
 refine kl_nil (kq_code ?_)
 refine kc_seq ?_
 refine kc_if rfl (fun c5 => ?_) (fun c5 => ?_)
 ·skip
  refine kc_skipQ ?_
  refine kq_code ?_
  refine kc_seq ?_
  refine kc_block ?_
  refine kc_seq (kc_region ?_)
  refine kl_mv rfl ?_
  refine kl_inI rfl rfl (by assumption) (by omega) (fun p6 a7 => ?_)
  refine kl_ld rfl (by assumption) ?_
  refine kl_as rfl ?_
  refine kl_as rfl ?_
  refine kl_nil (kq_code ?_)
  refine kc_seq ?_
  refine kc_seq (kc_region ?_)
  refine kl_mv rfl ?_
  refine kl_mv rfl ?_
  refine kl_len rfl (by assumption) (fun l8 => ?_)
  refine kl_geq rfl rfl ?_
  refine kl_nil (kq_code ?_)
  refine kc_if rfl (fun c9 => ?_) (fun c9 => ?_)
  ·skip
   exfalso; omega
  ·skip
   refine kc_skipQ ?_
   refine kq_code ?_
   refine kc_seq (kc_region ?_)
   refine kl_mv rfl ?_
   refine kl_mv rfl ?_
   refine kl_inI rfl rfl (by assumption) (by omega) (fun p10 a11 => ?_)
   refine kl_ld rfl (by assumption) ?_
   refine kl_as rfl ?_
   refine kl_nil (kq_code (kc_seq (kc_region ?_)))
   refine kl_mv rfl ?_
   refine kl_mv rfl ?_
   refine kl_callP rfl rfl (cmpInt_ok (a.getD k 0) (b.getD k 0)) ?_
   refine kl_as rfl ?_
   refine kl_nil (kq_code (kc_seq (kc_region ?_)))
   refine kl_mv rfl ?_
   refine kl_neq rfl rfl ?_
   refine kl_nil (kq_code ?_)
   refine kc_if rfl (fun c12 => ?_) (fun c12 => ?_)
   ·skip
    refine kc_seq (kc_region ?_)
    refine kl_mv rfl ?_
    refine kl_as rfl ?_
    refine kl_nil (kq_code ?_)
    refine kc_ret ?_
    refine kq_retP rfl rfl (congrArg (Value.int .i64) ?_)
    exact lexC_hit hl (by omega) hi3 (by assumption)
   ·skip
    refine kc_skipQ ?_
    refine kq_code ?_
    refine kc_region ?_
    refine kl_inc rfl rfl (by omega) ?_
    refine kl_mv rfl ?_
    refine kl_nil ?_
    refine kq_round0 ((k + 1)) (by omega) (⟨by omega, lexC_step hl (by omega) hi3 (Decidable.not_not.1 (by assumption))⟩) (pc 11 rfl pn) (pc 0 rfl (pc 1 rfl (pc 9 rfl (pc 10 rfl pn)))) (List.Sublist.refl _)
 ·skip
  refine kc_exit ?_
  refine kq_code ?_
  refine kc_seq ?_
  refine kc_seq (kc_region ?_)
  refine kl_mv rfl ?_
  refine kl_len rfl (by assumption) (fun l13 => ?_)
  refine kl_mv rfl ?_
  refine kl_len rfl (by assumption) (fun l14 => ?_)
  refine kl_lss rfl rfl ?_
  refine kl_nil (kq_code ?_)
  refine kc_if rfl (fun c15 => ?_) (fun c15 => ?_)
  ·skip
   exfalso; omega
  ·skip
   refine kc_skipQ ?_
   refine kq_code ?_
   refine kc_seq (kc_region ?_)
   refine kl_as rfl ?_
   refine kl_nil (kq_code ?_)
   refine kc_ret ?_
   refine kq_retP rfl rfl (congrArg (Value.int .i64) ?_)
   exact lexC_end hl (by omega) hi3
theorem nextS_ok {Hmd : Hp} {vmd : Value} {Hmc : Hp} {vmc : Value} {Hx : Hp} {vx : Value} (m : Mod) (x : List Int) (hmd : Ints Hmd vmd m.doms) (hmc : Cons Hmc vmc m.cons) (hx : Ints Hx vx x) : Spec Tryz.prog 28 [.agg #[vmd, vmc], vx] [Hmd, Hmc, Hx] (fun Hq vq => ∃ uq0 : Value, vq = .tuple #[uq0, .bool ((nextI m x).2)] ∧ Ints Hq uq0 ((nextI m x).1)) := by
 refine spec_of Tryz.func28 rfl rfl rfl (fun B => ?_)
 refine kc_seq (kc_region ?_)
 refine kl_box rfl rfl (fun p1 H2 f3 a4 => ?_)
 refine kl_as rfl ?_
 refine kl_as rfl ?_
 refine kl_nil (kq_code ?_)
 refine kc_seq ?_
 refine kc_seq (kc_region ?_)
 refine kl_ldS rfl (by assumption) rfl ?_
 refine kl_callP rfl rfl (validMod_ok m (by assumption) (by assumption)) ?_
 refine kl_not rfl ?_
 refine kl_mv rfl ?_
 refine kl_join 7 18 (.bool (!(validModB m) || !(decide ((x.length : Int) = (m.doms.length : Int)) && allInB x 0 5))) (pc 1 rfl (pc 2 rfl (pc 4 rfl (pc 5 rfl (pc 11 rfl pn))))) (fun J9 => ?_) ?_
 ·rcases Bool.eq_false_or_eq_true (!(validModB m)) with g5 | g5
  ·skip
   refine kl_gF rfl rfl g5 ?_
   refine kl_gF rfl rfl g5 ?_
   refine kl_gF rfl rfl g5 ?_
   refine kl_gF rfl rfl g5 ?_
   refine kl_gF rfl rfl g5 ?_
   refine kl_gF rfl rfl g5 ?_
   refine kl_orT (!(decide ((x.length : Int) = (m.doms.length : Int)) && allInB x 0 5)) rfl rfl g5 ?_
   exact J9 _ (pc 18 rfl (pc 1 rfl (pc 2 rfl (pc 4 rfl (pc 5 rfl (pc 11 rfl pn))))))
  ·skip
   have g5p := g5
   try simp only [Bool.not_eq_true', Bool.not_eq_false', decide_eq_true_eq, decide_eq_false_iff_not, Bool.and_eq_true, Bool.or_eq_false_iff, withinB_iff] at g5p
   refine kl_gT rfl rfl g5 ?_
   refine kl_mv rfl ?_
   refine kl_gT rfl rfl g5 ?_
   refine kl_fd rfl (by assumption) (fun p6 a7 => ?_)
   refine kl_gT rfl rfl g5 ?_
   refine kl_ld rfl (by assumption) ?_
   refine kl_gT rfl rfl g5 ?_
   refine kl_len rfl (by assumption) (fun l8 => ?_)
   refine kl_gT rfl rfl g5 ?_
   refine kl_callP rfl rfl (assigned_ok x (m.doms.length : Int) (by assumption)) ?_
   refine kl_gT rfl rfl g5 ?_
   refine kl_not rfl ?_
   refine kl_orF rfl rfl g5 ?_
   exact J9 _ (pc 18 rfl (pc 1 rfl (pc 2 rfl (pc 4 rfl (pc 5 rfl (pc 11 rfl pn))))))
 refine kl_nil (kq_code ?_)
 refine kc_cond rfl (fun c10 => ?_) (fun c10 => ?_)
 ·skip
  have c10r := c10
  try simp only [Bool.not_eq_true', Bool.not_eq_false', Bool.not_true, Bool.not_false, decide_eq_true_eq, decide_eq_false_iff_not, Bool.and_eq_true, Bool.or_eq_false_iff] at c10
  refine kc_seq (kc_region ?_)
  refine kl_as rfl ?_
  refine kl_as rfl ?_
  refine kl_nil (kq_code ?_)
  refine kc_ret ?_
  refine kq_ret2 rfl rfl rfl noHp (fr_no _) ⟨_, tup2 rfl (congrArg Value.bool (by rw [next_no (by assumption)])), ?_⟩
  exact (by have e9 : (nextI m x).1 = [] := (by rw [next_no (by assumption)]); rw [e9]; exact Sl.nil)
 ·skip
  have c10r := c10
  try simp only [Bool.not_eq_true', Bool.not_eq_false', Bool.not_true, Bool.not_false, decide_eq_true_eq, decide_eq_false_iff_not, Bool.and_eq_true, Bool.or_eq_false_iff] at c10
  have hg := next_ok c10r
  have hM := hg.1
  have hn := hM.n
  have hfw := sols_few hM
  refine kc_skipQ ?_
  refine kq_code ?_
  refine kc_seq ?_
  refine kc_seq (kc_region ?_)
  refine kl_ldS rfl (by assumption) rfl ?_
  refine kl_call rfl rfl (solutions_ok m hM (by assumption) (by assumption)) (fun v11 H12 f13 h14 => ?_)
  refine kl_len rfl (by assumption) (fun l15 => ?_)
  refine kl_mv rfl ?_
  refine kl_nil (kq_code ?_)
  refine kc_block ?_
  refine kc_loop0 (A := Nat) (fun zz => (zz ≤ (sols m).length) ∧ (((sols m).take zz).all (fun y => !(decide (0 < lexC y x))) = true)) (fun zz => (sols m).length - zz) (fun zz => [(22, .int .i64 (zz : Int))]) (0) (pc 1 rfl (pc 20 rfl (pc 21 rfl pn))) (pc 22 rfl pn) ⟨Nat.zero_le _, by simp⟩ ?_
  rintro k hJ18
  obtain ⟨hk16, hi17⟩ : (k ≤ (sols m).length) ∧ (((sols m).take k).all (fun y => !(decide (0 < lexC y x))) = true) := hJ18
  change KC _ _ (_) _ _ ([(22, .int .i64 (k : Int))] ++ _)
  refine kc_seq (kc_region ?_)
  refine kl_lss rfl rfl ?_
  refine kl_nil (kq_code ?_)
  refine kc_seq ?_
  refine kc_if rfl (fun c19 => ?_) (fun c19 => ?_)
  ·skip
   refine kc_skipQ ?_
   refine kq_code ?_
   refine kc_seq ?_
   refine kc_block ?_
   refine kc_seq (kc_region ?_)
   refine kl_inS rfl rfl (by assumption) (by omega) (fun p20 u22 h23 a21 => ?_)
   refine kl_ld rfl (by assumption) ?_
   refine kl_as rfl ?_
   refine kl_nil (kq_code (kc_seq (kc_region ?_)))
   refine kl_mv rfl ?_
   refine kl_mv rfl ?_
   refine kl_callP rfl rfl (cmpL_ok ((sols m).getD k []) x (by rw [sols_len (getD_mem (d := []) (by omega : k < (sols m).length))]; exact hg.2.symm) (by assumption) (by assumption)) ?_
   refine kl_gtr rfl rfl ?_
   refine kl_nil (kq_code ?_)
   refine kc_if rfl (fun c24 => ?_) (fun c24 => ?_)
   ·skip
    refine kc_seq (kc_region ?_)
    refine kl_mv rfl ?_
    refine kl_as rfl ?_
    refine kl_as rfl ?_
    refine kl_nil (kq_code ?_)
    refine kc_ret ?_
    refine kq_ret2 rfl rfl rfl H12 f13 ⟨_, tup2 rfl (congrArg Value.bool (by rw [next_hit (k := k) (by assumption) (by omega) hi17 (by assumption)])), ?_⟩
    exact (by have e9 : (nextI m x).1 = ((sols m).getD k []) := (by rw [next_hit (k := k) (by assumption) (by omega) hi17 (by assumption)]); rw [e9]; assumption)
   ·skip
    refine kc_skipQ ?_
    refine kq_code ?_
    refine kc_region ?_
    refine kl_inc rfl rfl (by omega) ?_
    refine kl_mv rfl ?_
    refine kl_nil ?_
    refine kq_round0 ((k + 1)) (by omega) (⟨by omega, next_step (by omega) hi17 (by assumption)⟩) (pc 22 rfl pn) (pc 1 rfl (pc 20 rfl (pc 21 rfl pn))) (List.Sublist.refl _)
  ·skip
   refine kc_exit ?_
   refine kq_code ?_
   refine kc_seq (kc_region ?_)
   refine kl_as rfl ?_
   refine kl_as rfl ?_
   refine kl_nil (kq_code ?_)
   refine kc_ret ?_
   refine kq_ret2 rfl rfl rfl noHp (fr_no _) ⟨_, tup2 rfl (congrArg Value.bool (by rw [next_none (k := k) (by assumption) (by omega) hi17])), ?_⟩
   exact (by have e9 : (nextI m x).1 = [] := (by rw [next_none (k := k) (by assumption) (by omega) hi17]); rw [e9]; exact Sl.nil)
end Go.Proofs.YtigngogjgohfgaaGreat
