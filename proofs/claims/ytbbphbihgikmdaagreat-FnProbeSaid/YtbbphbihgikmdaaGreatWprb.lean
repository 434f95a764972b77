/- Walks of functions of the program: each returns what the plain function gives. Conditions: those that each statement names. -/
import Derived.Test.YtbbphbihgikmdaaGreatWfix
import Derived.Test.YtbbphbihgikmdaaGreatWsfix
import Derived.Test.YtbbphbihgikmdaaGreatWlit
import Derived.Test.YtbbphbihgikmdaaGreatWsm
import Derived.Test.YtbbphbihgikmdaaGreatPureI
namespace Go.Proofs.YtbbphbihgikmdaaGreat
open Go
set_option linter.unusedSimpArgs false
set_option linter.unusedVariables false
theorem equalInts_ok {Ha : Hp} {va : Value} {Hb : Hp} {vb : Value} (a : List Int) (b : List Int) (ha : Ints Ha va a) (hb : Ints Hb vb b) : SpecP Tryz.prog 21 [va, vb] [Ha, Hb] (.bool (decide (a = b))) := by
 refine spec_of Tryz.func21 rfl rfl rfl (fun B => ?_)
 refine kc_seq (kc_region ?_)
 refine kl_as rfl ?_
 refine kl_nil (kq_code ?_)
 refine kc_seq ?_
 refine kc_seq (kc_region ?_)
 refine kl_mv rfl ?_
 refine kl_len rfl (by assumption) (fun l1 => ?_)
 refine kl_mv rfl ?_
 refine kl_len rfl (by assumption) (fun l2 => ?_)
 refine kl_neq rfl rfl ?_
 refine kl_nil (kq_code ?_)
 refine kc_if rfl (fun c3 => ?_) (fun c3 => ?_)
 ·skip
  refine kc_seq (kc_region ?_)
  refine kl_as rfl ?_
  refine kl_nil (kq_code ?_)
  refine kc_ret ?_
  refine kq_retP rfl rfl (congrArg Value.bool ?_)
  exact eq_len (by assumption)
 ·skip
  refine kc_skipQ ?_
  refine kq_code ?_
  refine kc_seq ?_
  refine kc_seq (kc_region ?_)
  refine kl_as rfl ?_
  refine kl_nil (kq_code ?_)
  refine kc_block ?_
  refine kc_loop0 (A := Nat) (fun zz => (zz ≤ a.length) ∧ (a.take zz = b.take zz)) (fun zz => a.length - zz) (fun zz => [(5, .int .i64 (zz : Int))]) (0) (pc 0 rfl (pc 1 rfl pn)) (pc 5 rfl pn) ⟨Nat.zero_le _, by simp⟩ ?_
  rintro k hJ6
  obtain ⟨hk4, hi5⟩ : (k ≤ a.length) ∧ (a.take k = b.take k) := hJ6
  change KC _ _ (_) _ _ ([(5, .int .i64 (k : Int))] ++ _)
  refine kc_seq ?_
  refine kc_seq (kc_region ?_)
  refine kl_mv rfl ?_
  refine kl_mv rfl ?_
  refine kl_len rfl (by assumption) (fun l7 => ?_)
  refine kl_lss rfl rfl ?_
  refine kl_nil (kq_code ?_)
  refine kc_if rfl (fun c8 => ?_) (fun c8 => ?_)
  ·skip
   refine kc_skipQ ?_
   refine kq_code ?_
   refine kc_seq ?_
   refine kc_block ?_
   refine kc_seq ?_
   refine kc_draw 9 [true, true, true, true, true, true, true, true, true] (by kernel_rfl) (by kernel_rfl) ?_
   refine kl_mv rfl ?_
   refine kl_mv rfl ?_
   refine kl_inI rfl rfl (by assumption) (by omega) (fun p9 a10 => ?_)
   refine kl_ld rfl (by assumption) ?_
   refine kl_mv rfl ?_
   refine kl_mv rfl ?_
   refine kl_inI rfl rfl (by assumption) (by omega) (fun p11 a12 => ?_)
   refine kl_ld rfl (by assumption) ?_
   refine kl_neq rfl rfl ?_
   refine kl_nil (kq_code ?_)
   refine kc_if rfl (fun c13 => ?_) (fun c13 => ?_)
   ·skip
    refine kc_seq (kc_region ?_)
    refine kl_as rfl ?_
    refine kl_nil (kq_code ?_)
    refine kc_ret ?_
    refine kq_retP rfl rfl (congrArg Value.bool ?_)
    exact eq_at (k := k) 0 (by simpa using by assumption)
   ·skip
    refine kc_skipQ ?_
    refine kq_code ?_
    refine kc_region ?_
    refine kl_mv rfl ?_
    refine kl_inc rfl rfl (by omega) ?_
    refine kl_as rfl ?_
    refine kl_nil ?_
    refine kq_round0 ((k + 1)) (by omega) (⟨by omega, eq_step 0 (by omega) (by omega) hi5 (by first | exact Decidable.not_not.1 (by assumption) | (simpa using by assumption))⟩) (pc 5 rfl pn) (pc 0 rfl (pc 1 rfl pn)) (List.Sublist.refl _)
  ·skip
   refine kc_exit ?_
   refine kq_code ?_
   refine kc_seq (kc_region ?_)
   refine kl_as rfl ?_
   refine kl_nil (kq_code ?_)
   refine kc_ret ?_
   refine kq_retP rfl rfl (congrArg Value.bool ?_)
   exact eq_end (k := k) (by omega) (by omega) (by assumption)
theorem clipR_ok {Hxs : Hp} {vxs : Value} (xs : List (List Int)) (hxs : Rows Hxs vxs xs) : Spec Tryz.prog 76 [vxs] [Hxs] (fun _ vq => Rows Hxs vq xs ∧ ClipV vxs vq xs.length) := by
 refine spec_of Tryz.func76 rfl rfl rfl (fun B => ?_)
 refine kc_seq (kc_region ?_)
 refine kl_as rfl ?_
 refine kl_nil (kq_code (kc_seq (kc_region ?_)))
 refine kl_mv rfl ?_
 refine kl_mv rfl ?_
 refine kl_len rfl (by assumption) (fun l1 => ?_)
 refine kl_mv rfl ?_
 refine kl_len rfl (by assumption) (fun l2 => ?_)
 refine kl_clipV rfl rfl rfl (by assumption) (by omega) (fun u3 h4 h4v => ?_)
 refine kl_as rfl ?_
 refine kl_nil (kq_code ?_)
 refine kc_ret ?_
 exact kq_ret rfl rfl noHp (fr_no _) ⟨by assumption, by assumption⟩
theorem solveAll_ok {Hmd : Hp} {vmd : Value} {Hmc : Hp} {vmc : Value} (m : Mod) (hmd : Ints Hmd vmd m.doms) (hmc : Cons Hmc vmc m.cons) : Spec Tryz.prog 33 [.agg #[vmd, vmc], .int .i64 (20 : Int)] [Hmd, Hmc] (fun Hq vq => Rows Hq vq (solL m)) := by
 refine spec_of Tryz.func33 rfl rfl rfl (fun B => ?_)
 refine kc_seq (kc_region ?_)
 refine kl_box rfl rfl (fun p1 H2 f3 a4 => ?_)
 refine kl_as rfl ?_
 refine kl_nil (kq_code ?_)
 refine kc_seq ?_
 refine kc_seq (kc_region ?_)
 refine kl_ldS rfl (by assumption) rfl ?_
 refine kl_callP rfl rfl (validMod_ok m (by assumption) (by assumption)) ?_
 refine kl_not rfl ?_
 refine kl_mv rfl ?_
 refine kl_join 4 13 (.bool (!(validModB m) || !(withinB (20 : Int) (0 : Int) (20 : Int)))) (pc 1 rfl (pc 2 rfl (pc 4 rfl (pc 9 rfl pn)))) (fun J6 => ?_) ?_
 ·rcases Bool.eq_false_or_eq_true (!(validModB m)) with g5 | g5
  ·skip
   refine kl_gF rfl rfl g5 ?_
   refine kl_gF rfl rfl g5 ?_
   refine kl_gF rfl rfl g5 ?_
   refine kl_orT (!(withinB (20 : Int) (0 : Int) (20 : Int))) rfl rfl g5 ?_
   exact J6 _ (pc 13 rfl (pc 1 rfl (pc 2 rfl (pc 4 rfl (pc 9 rfl pn)))))
  ·skip
   have g5p := g5
   try simp only [Bool.not_eq_true', Bool.not_eq_false', decide_eq_true_eq, decide_eq_false_iff_not, Bool.and_eq_true, Bool.or_eq_false_iff, withinB_iff] at g5p
   refine kl_gT rfl rfl g5 ?_
   refine kl_mv rfl ?_
   refine kl_gT rfl rfl g5 ?_
   refine kl_callP rfl rfl (within_ok (20 : Int) (0 : Int) (20 : Int)) ?_
   refine kl_gT rfl rfl g5 ?_
   refine kl_not rfl ?_
   refine kl_orF rfl rfl g5 ?_
   exact J6 _ (pc 13 rfl (pc 1 rfl (pc 2 rfl (pc 4 rfl (pc 9 rfl pn)))))
 refine kl_nil (kq_code ?_)
 refine kc_cond rfl (fun c7 => ?_) (fun c7 => ?_)
 ·skip
  have c7r := c7
  try simp only [Bool.not_eq_true', Bool.not_eq_false', Bool.not_true, Bool.not_false, decide_eq_true_eq, decide_eq_false_iff_not, Bool.and_eq_true, Bool.or_eq_false_iff] at c7
  refine kc_seq (kc_region ?_)
  refine kl_as rfl ?_
  refine kl_nil (kq_code ?_)
  refine kc_ret ?_
  exact kq_ret rfl rfl noHp (fr_no _) (by rw [solL_nw (by assumption)]; exact Sl.nil)
 ·skip
  have c7r := c7
  try simp only [Bool.not_eq_true', Bool.not_eq_false', Bool.not_true, Bool.not_false, decide_eq_true_eq, decide_eq_false_iff_not, Bool.and_eq_true, Bool.or_eq_false_iff] at c7
  have hv : validModB m = true := (by revert c7r; cases validModB m <;> simp)
  have hM : MOk m := ⟨hv⟩
  have hfw := sols_few hM
  refine kc_skipQ ?_
  refine kq_code ?_
  refine kc_seq (kc_region ?_)
  refine kl_ldS rfl (by assumption) rfl ?_
  refine kl_call rfl rfl (solutions_ok m hM (by assumption) (by assumption)) (fun v8 H9 f10 h11 => ?_)
  refine kl_as rfl ?_
  refine kl_nil (kq_code (kc_seq (kc_region ?_)))
  refine kl_mv rfl ?_
  refine kl_mv rfl ?_
  refine kl_mv rfl ?_
  refine kl_len rfl (by assumption) (fun l12 => ?_)
  refine kl_min rfl rfl ?_
  have e15 : (min (20 : Int) ((sols m).length : Int)) = (((Int.toNat (min (20 : Int) ((sols m).length : Int))) : Nat) : Int) := by omega
  refine kl_slTake (i := (Int.toNat (min (20 : Int) ((sols m).length : Int)))) rfl (by rw [← e15]; rfl) (by assumption) (by omega) (fun u13 h14 => ?_)
  refine kl_call rfl rfl (clipR_ok ((sols m).take (Int.toNat (min (20 : Int) ((sols m).length : Int)))) (by assumption)) (fun v16 H17 f18 h19 => ?_)
  obtain ⟨h19, h20⟩ := h19
  refine kl_as rfl ?_
  refine kl_nil (kq_code ?_)
  refine kc_ret ?_
  have e9 : ((sols m).take (Int.toNat (min (20 : Int) ((sols m).length : Int)))) = solL m := by exact solL_yes hv
  exact kq_ret rfl rfl H9 f10 (e9 ▸ (by assumption : Rows _ _ ((sols m).take (Int.toNat (min (20 : Int) ((sols m).length : Int))))))
theorem cwImp_ok {Hmd : Hp} {vmd : Value} {Hmc : Hp} {vmc : Value} {Hc : Hp} {vc : Value} (m : Mod) (c : List Lit) (hmd : Ints Hmd vmd m.doms) (hmc : Cons Hmc vmc m.cons) (hc : Lits Hc vc c) : SpecP Tryz.prog 13 [.agg #[vmd, vmc], vc] [Hmd, Hmc, Hc] (.int .i64 (cwI m c)) := by
 refine spec_of Tryz.func13 rfl rfl rfl (fun B => ?_)
 refine kc_seq (kc_region ?_)
 refine kl_box rfl rfl (fun p1 H2 f3 a4 => ?_)
 refine kl_as rfl ?_
 refine kl_nil (kq_code ?_)
 refine kc_seq ?_
 refine kc_seq (kc_region ?_)
 refine kl_ldS rfl (by assumption) rfl ?_
 refine kl_mv rfl ?_
 refine kl_callP rfl rfl (litsOk_ok m c (by assumption) (by assumption) (by assumption)) ?_
 refine kl_not rfl ?_
 refine kl_nil (kq_code ?_)
 refine kc_cond rfl (fun c5 => ?_) (fun c5 => ?_)
 ·skip
  have c5r := c5
  try simp only [Bool.not_eq_true', Bool.not_eq_false', Bool.not_true, Bool.not_false, decide_eq_true_eq, decide_eq_false_iff_not, Bool.and_eq_true, Bool.or_eq_false_iff] at c5
  refine kc_seq (kc_region ?_)
  refine kl_as rfl ?_
  refine kl_nil (kq_code ?_)
  refine kc_ret ?_
  refine kq_retP rfl rfl (congrArg (Value.int .i64) ?_)
  exact cw_no (by assumption)
 ·skip
  have c5r := c5
  try simp only [Bool.not_eq_true', Bool.not_eq_false', Bool.not_true, Bool.not_false, decide_eq_true_eq, decide_eq_false_iff_not, Bool.and_eq_true, Bool.or_eq_false_iff] at c5
  have hcc := c5r
  have hg := lits_okN hcc
  have hM := hg.hM
  have hfw := sols_few hM
  refine kc_skipQ ?_
  refine kq_code ?_
  refine kc_seq (kc_region ?_)
  refine kl_as rfl ?_
  refine kl_nil (kq_code ?_)
  refine kc_seq ?_
  refine kc_seq (kc_region ?_)
  refine kl_ldS rfl (by assumption) rfl ?_
  refine kl_call rfl rfl (solutions_ok m hM (by assumption) (by assumption)) (fun v6 H7 f8 h9 => ?_)
  refine kl_len rfl (by assumption) (fun l10 => ?_)
  refine kl_mv rfl ?_
  refine kl_nil (kq_code ?_)
  refine kc_block ?_
  refine kc_loop0 (A := Nat × Int) (fun zz => (zz.1 ≤ (sols m).length) ∧ (zz.2 = cwTo c (sols m) zz.1)) (fun zz => (sols m).length - zz.1) (fun zz => [(15, .int .i64 (zz.1 : Int)), (5, .int .i64 zz.2)]) (0, (0 : Int)) (pc 1 rfl (pc 4 rfl (pc 13 rfl (pc 14 rfl pn)))) (pc 15 rfl (pc 5 rfl pn)) ⟨Nat.zero_le _, rfl⟩ ?_
  rintro ⟨k, z⟩ hJ13
  obtain ⟨hk11, hi12⟩ : (k ≤ (sols m).length) ∧ (z = cwTo c (sols m) k) := hJ13
  change KC _ _ (_) _ _ ([(15, .int .i64 (k : Int)), (5, .int .i64 z)] ++ _)
  have hzl := cwTo_le c (sols m) k
  refine kc_seq (kc_region ?_)
  refine kl_lss rfl rfl ?_
  refine kl_nil (kq_code ?_)
  refine kc_seq ?_
  refine kc_if rfl (fun c14 => ?_) (fun c14 => ?_)
  ·skip
   refine kc_skipQ ?_
   refine kq_code ?_
   refine kc_seq ?_
   refine kc_block ?_
   refine kc_seq (kc_region ?_)
   refine kl_inS rfl rfl (by assumption) (by omega) (fun p15 u17 h18 a16 => ?_)
   refine kl_ld rfl (by assumption) ?_
   refine kl_as rfl ?_
   refine kl_nil (kq_code (kc_seq (kc_region ?_)))
   refine kl_mv rfl ?_
   refine kl_mv rfl ?_
   refine kl_callP rfl rfl (allTrueI_ok c ((sols m).getD k []) (by rw [sols_len (getD_mem (d := []) (by omega : k < (sols m).length))]; exact hg.h) (sols_vals (getD_mem (d := []) (by omega : k < (sols m).length))) (by assumption) (by assumption)) ?_
   refine kl_nil (kq_code ?_)
   refine kc_cond rfl (fun c19 => ?_) (fun c19 => ?_)
   ·skip
    have c19r := c19
    try simp only [Bool.not_eq_true', Bool.not_eq_false', Bool.not_true, Bool.not_false, decide_eq_true_eq, decide_eq_false_iff_not, Bool.and_eq_true, Bool.or_eq_false_iff] at c19
    refine kc_region ?_
    refine kl_mv rfl ?_
    refine kl_add rfl rfl (by omega) ?_
    refine kl_as rfl ?_
    refine kl_nil (kq_code ?_)
    refine kc_region ?_
    refine kl_inc rfl rfl (by omega) ?_
    refine kl_mv rfl ?_
    refine kl_nil ?_
    refine kq_round0 ((k + 1), (z + (1 : Int))) (by omega) (⟨by omega, (by first | exact cwTo_T hi12 (by omega) (by assumption) | exact cwTo_F hi12 (by omega) (by assumption))⟩) (pc 15 rfl (pc 5 rfl pn)) (pc 1 rfl (pc 4 rfl (pc 13 rfl (pc 14 rfl pn)))) (List.Sublist.refl _)
   ·skip
    have c19r := c19
    try simp only [Bool.not_eq_true', Bool.not_eq_false', Bool.not_true, Bool.not_false, decide_eq_true_eq, decide_eq_false_iff_not, Bool.and_eq_true, Bool.or_eq_false_iff] at c19
    refine kc_skipQ ?_
    refine kq_code ?_
    refine kc_region ?_
    refine kl_inc rfl rfl (by omega) ?_
    refine kl_mv rfl ?_
    refine kl_nil ?_
    refine kq_round0 ((k + 1), z) (by omega) (⟨by omega, (by first | exact cwTo_T hi12 (by omega) (by assumption) | exact cwTo_F hi12 (by omega) (by assumption))⟩) (pc 15 rfl (pc 5 rfl pn)) (pc 1 rfl (pc 4 rfl (pc 13 rfl (pc 14 rfl pn)))) (List.Sublist.refl _)
  ·skip
   refine kc_exit ?_
   refine kq_code ?_
   refine kc_seq (kc_region ?_)
   refine kl_mv rfl ?_
   refine kl_as rfl ?_
   refine kl_nil (kq_code ?_)
   refine kc_ret ?_
   refine kq_retP rfl rfl (congrArg (Value.int .i64) ?_)
   exact cw_yes (by assumption) hi12 (by omega)
theorem propagateI_ok {Hmd : Hp} {vmd : Value} {Hmc : Hp} {vmc : Value} (m : Mod) (hmd : Ints Hmd vmd m.doms) (hmc : Cons Hmc vmc m.cons) : Spec Tryz.prog 35 [.agg #[vmd, vmc]] [Hmd, Hmc] (fun Hq vq => Ints Hq vq (propI m)) := by
 refine spec_of Tryz.func35 rfl rfl rfl (fun B => ?_)
 refine kc_seq (kc_region ?_)
 refine kl_box rfl rfl (fun p1 H2 f3 a4 => ?_)
 refine kl_as rfl ?_
 refine kl_nil (kq_code ?_)
 refine kc_seq ?_
 refine kc_seq (kc_region ?_)
 refine kl_ldS rfl (by assumption) rfl ?_
 refine kl_callP rfl rfl (validMod_ok m (by assumption) (by assumption)) ?_
 refine kl_not rfl ?_
 refine kl_nil (kq_code ?_)
 refine kc_cond rfl (fun c5 => ?_) (fun c5 => ?_)
 ·skip
  have c5r := c5
  try simp only [Bool.not_eq_true', Bool.not_eq_false', Bool.not_true, Bool.not_false, decide_eq_true_eq, decide_eq_false_iff_not, Bool.and_eq_true, Bool.or_eq_false_iff] at c5
  refine kc_seq (kc_region ?_)
  refine kl_as rfl ?_
  refine kl_nil (kq_code ?_)
  refine kc_ret ?_
  exact kq_ret rfl rfl noHp (fr_no _) (by rw [propI_no (by assumption)]; exact Sl.nil)
 ·skip
  have c5r := c5
  try simp only [Bool.not_eq_true', Bool.not_eq_false', Bool.not_true, Bool.not_false, decide_eq_true_eq, decide_eq_false_iff_not, Bool.and_eq_true, Bool.or_eq_false_iff] at c5
  have hv : validModB m = true := (by simpa using c5r)
  have hM : MOk m := ⟨hv⟩
  have hn := hM.n
  have hfw := sols_few hM
  refine kc_skipQ ?_
  refine kq_code ?_
  refine kc_seq (kc_region ?_)
  refine kl_ldS rfl (by assumption) rfl ?_
  refine kl_fd rfl (by assumption) (fun p6 a7 => ?_)
  refine kl_ld rfl (by assumption) ?_
  refine kl_call rfl rfl (propagate_ok m m.doms hM hM.dok (by assumption) (by assumption) (by assumption)) (fun v8 H9 f10 h11 => ?_)
  refine kl_as rfl ?_
  refine kl_nil (kq_code ?_)
  refine kc_ret ?_
  have e9 : (prop m m.doms) = propI m := by exact (propI_yes hv).symm
  exact kq_ret rfl rfl H9 f10 (e9 ▸ (by assumption : Ints _ _ (prop m m.doms)))
theorem limited_ok {Hds : Hp} {vds : Value} (ds : List Int) (i : Int) (d : Int) (hb : ds.length ≤ 1000) (hi : 0 ≤ i ∧ i < (ds.length : Int)) (hds : Ints Hds vds ds) : Spec Tryz.prog 116 [vds, .int .i64 i, .int .i64 d] [Hds] (fun Hq vq => Ints Hq vq (ds.set i.toNat (iand (ds.getD i.toNat 0) d))) := by
 refine spec_of Tryz.func116 rfl rfl rfl (fun B => ?_)
 refine kc_seq (kc_region ?_)
 refine kl_as rfl ?_
 refine kl_nil (kq_code (kc_seq (kc_region ?_)))
 refine kl_mv rfl ?_
 refine kl_callL rfl rfl (copied_ok ds (by omega) (by assumption)) (fun v1 H2 f3 o4 => ?_)
 refine kl_as rfl ?_
 refine kl_nil (kq_code (kc_seq (kc_region ?_)))
 refine kl_mv rfl ?_
 refine kl_mv rfl ?_
 refine kl_ixL rfl rfl (by assumption) (by omega) (by omega) (fun p5 q6 => ?_)
 refine kl_ldLI rfl (by assumption) (by assumption) (by omega) ?_
 refine kl_mv rfl ?_
 refine kl_and rfl rfl ?_
 refine kl_ixL rfl rfl (by assumption) (by omega) (by omega) (fun p7 q8 => ?_)
 refine kl_stL (iand (ds.getD i.toNat 0) d) rfl rfl (by assumption) o4 (by omega) rfl rfl rfl (fun H9 o10 f11 => ?_)
 have f12 := f11 _ f3
 refine kl_nil (kq_code (kc_seq (kc_region ?_)))
 refine kl_mv rfl ?_
 refine kl_as rfl ?_
 refine kl_nil (kq_code ?_)
 refine kc_ret ?_
 exact kq_ret rfl rfl H9 f12 (OwnL.ints o10)
theorem probeI_ok {Hmd : Hp} {vmd : Value} {Hmc : Hp} {vmc : Value} {Hds : Hp} {vds : Value} (m : Mod) (ds : List Int) (v : Int) (a : Int) (hM : MOk m) (hk : DOk m.doms.length (psetL ds v a)) (hl : ds.length = m.doms.length) (hv : 0 ≤ v ∧ v < (m.doms.length : Int)) (ha : 0 ≤ a ∧ a ≤ 5) (hmd : Ints Hmd vmd m.doms) (hmc : Cons Hmc vmc m.cons) (hds : Ints Hds vds ds) : Spec Tryz.prog 74 [.agg #[vmd, vmc], vds, .int .i64 v, .int .i64 a] [Hmd, Hmc, Hds] (fun Hq vq => Ints Hq vq (prop m (psetL ds v a))) := by
 have hn := hM.n
 refine spec_of Tryz.func74 rfl rfl rfl (fun B => ?_)
 refine kc_seq (kc_region ?_)
 refine kl_box rfl rfl (fun p1 H2 f3 a4 => ?_)
 refine kl_as rfl ?_
 refine kl_nil (kq_code ?_)
 refine kc_seq ?_
 refine kc_draw 8 [true, true, true, true, true, false, false, true] (by kernel_rfl) (by kernel_rfl) ?_
 refine kl_ldS rfl (by assumption) rfl ?_
 refine kl_mv rfl ?_
 refine kl_mv rfl ?_
 refine kl_mv rfl ?_
 refine kl_shl rfl rfl (by omega) ?_
 refine kl_call rfl rfl (limited_ok ds v (ishl (1 : Int) a) (by omega) (by omega) (by assumption)) (fun v5 H6 f7 h8 => ?_)
 refine kl_call rfl rfl (propagate_ok m (ds.set v.toNat (iand (ds.getD v.toNat 0) (ishl (1 : Int) a))) hM hk (by assumption) (by assumption) (by assumption)) (fun v9 H10 f11 h12 => ?_)
 refine kl_as rfl ?_
 refine kl_nil (kq_code ?_)
 refine kc_ret ?_
 exact kq_ret rfl rfl H10 f11 (by assumption)
theorem probI_ok {Hmd : Hp} {vmd : Value} {Hmc : Hp} {vmc : Value} (m : Mod) (v : Int) (a : Int) (hmd : Ints Hmd vmd m.doms) (hmc : Cons Hmc vmc m.cons) : Spec Tryz.prog 31 [.agg #[vmd, vmc], .int .i64 v, .int .i64 a] [Hmd, Hmc] (fun Hq vq => Ints Hq vq (probI m v a)) := by
 refine spec_of Tryz.func31 rfl rfl rfl (fun B => ?_)
 refine kc_seq (kc_region ?_)
 refine kl_box rfl rfl (fun p1 H2 f3 a4 => ?_)
 refine kl_as rfl ?_
 refine kl_nil (kq_code ?_)
 refine kc_seq ?_
 refine kc_seq (kc_region ?_)
 refine kl_ldS rfl (by assumption) rfl ?_
 refine kl_mv rfl ?_
 refine kl_bs rfl rfl rfl (by decide) (ca rfl ca_nil) (fun v5 H6 f7 r8 s9 => ?_)
 have h10 : Ints H6 v5 [v] := litInts (xs := [v]) (by simpa using s9)
 refine kl_callP rfl rfl (varsIn_ok m ([v]) (by assumption) (by assumption) (by assumption)) ?_
 refine kl_not rfl ?_
 refine kl_mv rfl ?_
 refine kl_join 4 16 (.bool (!(varsInB m ([v])) || !(withinB a 0 5))) (pc 1 rfl (pc 2 rfl (pc 3 rfl (pc 6 rfl (pc 12 rfl pn))))) (fun J12 => ?_) ?_
 ·rcases Bool.eq_false_or_eq_true (!(varsInB m ([v]))) with g11 | g11
  ·skip
   refine kl_gF rfl rfl g11 ?_
   refine kl_gF rfl rfl g11 ?_
   refine kl_gF rfl rfl g11 ?_
   refine kl_orT (!(withinB a 0 5)) rfl rfl g11 ?_
   exact J12 _ (pc 16 rfl (pc 1 rfl (pc 2 rfl (pc 3 rfl (pc 6 rfl (pc 12 rfl pn))))))
  ·skip
   have g11p := g11
   try simp only [Bool.not_eq_true', Bool.not_eq_false', decide_eq_true_eq, decide_eq_false_iff_not, Bool.and_eq_true, Bool.or_eq_false_iff, withinB_iff] at g11p
   refine kl_gT rfl rfl g11 ?_
   refine kl_mv rfl ?_
   refine kl_gT rfl rfl g11 ?_
   refine kl_callP rfl rfl (valueOk_ok a) ?_
   refine kl_gT rfl rfl g11 ?_
   refine kl_not rfl ?_
   refine kl_orF rfl rfl g11 ?_
   exact J12 _ (pc 16 rfl (pc 1 rfl (pc 2 rfl (pc 3 rfl (pc 6 rfl (pc 12 rfl pn))))))
 refine kl_nil (kq_code ?_)
 refine kc_cond rfl (fun c13 => ?_) (fun c13 => ?_)
 ·skip
  have c13r := c13
  try simp only [Bool.not_eq_true', Bool.not_eq_false', Bool.not_true, Bool.not_false, decide_eq_true_eq, decide_eq_false_iff_not, Bool.and_eq_true, Bool.or_eq_false_iff] at c13
  refine kc_seq (kc_region ?_)
  refine kl_as rfl ?_
  refine kl_nil (kq_code ?_)
  refine kc_ret ?_
  exact kq_ret rfl rfl noHp (fr_no _) (by rw [prob_no (probI_c m v a) (by assumption)]; exact Sl.nil)
 ·skip
  have c13r := c13
  try simp only [Bool.not_eq_true', Bool.not_eq_false', Bool.not_true, Bool.not_false, decide_eq_true_eq, decide_eq_false_iff_not, Bool.and_eq_true, Bool.or_eq_false_iff] at c13
  have hok := prob_yes (probI_c m v a) c13r
  have hp := prob_g hok
  refine kc_skipQ ?_
  refine kq_code ?_
  refine kc_seq (kc_region ?_)
  refine kl_ldS rfl (by assumption) rfl ?_
  refine kl_fd rfl (by assumption) (fun p14 a15 => ?_)
  refine kl_ld rfl (by assumption) ?_
  refine kl_mv rfl ?_
  refine kl_mv rfl ?_
  refine kl_call rfl rfl (probeI_ok m m.doms v a hp.M (pset_ok hp).1 rfl hp.v hp.a (by assumption) (by assumption) (by assumption)) (fun v16 H17 f18 h19 => ?_)
  refine kl_as rfl ?_
  refine kl_nil (kq_code ?_)
  refine kc_ret ?_
  have e9 : (prop m (psetL m.doms v a)) = probI m v a := by exact prob_at hok
  exact kq_ret rfl rfl H17 f18 (e9 ▸ (by assumption : Ints _ _ (prop m (psetL m.doms v a))))
theorem probeS_ok {Hmd : Hp} {vmd : Value} {Hmc : Hp} {vmc : Value} {Hds : Hp} {vds : Value} (m : Mod) (ds : List Int) (v : Int) (a : Int) (hM : MOk m) (hk : DOk m.doms.length (psetL ds v a)) (hl : ds.length = m.doms.length) (hv : 0 ≤ v ∧ v < (m.doms.length : Int)) (ha : 0 ≤ a ∧ a ≤ 5) (hmd : Ints Hmd vmd m.doms) (hmc : Cons Hmc vmc m.cons) (hds : Ints Hds vds ds) : Spec Tryz.prog 75 [.agg #[vmd, vmc], vds, .int .i64 v, .int .i64 a] [Hmd, Hmc, Hds] (fun Hq vq => Ints Hq vq (prop m (psetL ds v a))) := by
 have hn := hM.n
 refine spec_of Tryz.func75 rfl rfl rfl (fun B => ?_)
 refine kc_seq (kc_region ?_)
 refine kl_box rfl rfl (fun p1 H2 f3 a4 => ?_)
 refine kl_as rfl ?_
 refine kl_nil (kq_code (kc_seq (kc_region ?_)))
 refine kl_mv rfl ?_
 refine kl_callL rfl rfl (copyInts_ok ds (by omega) (by assumption)) (fun v5 H6 f7 o8 => ?_)
 refine kl_as rfl ?_
 refine kl_nil (kq_code ?_)
 refine kc_seq ?_
 refine kc_draw 10 [true, true, true, true, true, true, true, true, true, true, false] (by kernel_rfl) (by kernel_rfl) ?_
 refine kl_mv rfl ?_
 refine kl_mv rfl ?_
 refine kl_mv rfl ?_
 refine kl_mv rfl ?_
 refine kl_ixL rfl rfl (by assumption) (by omega) (by omega) (fun p9 q10 => ?_)
 refine kl_ldLI rfl (by assumption) (by assumption) (by omega) ?_
 refine kl_mv rfl ?_
 refine kl_shl rfl rfl (by omega) ?_
 refine kl_and rfl rfl ?_
 refine kl_ixL rfl rfl (by assumption) (by omega) (by omega) (fun p11 q12 => ?_)
 refine kl_stL (iand (ds.getD v.toNat 0) (ishl (1 : Int) a)) rfl rfl (by assumption) o8 (by omega) rfl rfl rfl (fun H13 o14 f15 => ?_)
 have f16 := f15 _ f7
 refine kl_nil (kq_code (kc_seq (kc_region ?_)))
 refine kl_ldS rfl (by assumption) rfl ?_
 refine kl_mv rfl ?_
 refine kl_call rfl rfl (fixS_ok m (ds.set v.toNat (iand (ds.getD v.toNat 0) (ishl (1 : Int) a))) hM hk (by assumption) (by assumption) (OwnL.ints o14)) (fun v17 H18 f19 h20 => ?_)
 refine kl_as rfl ?_
 refine kl_nil (kq_code ?_)
 refine kc_ret ?_
 exact kq_ret rfl rfl H18 f19 (by assumption)
theorem probS_ok {Hmd : Hp} {vmd : Value} {Hmc : Hp} {vmc : Value} (m : Mod) (v : Int) (a : Int) (hmd : Ints Hmd vmd m.doms) (hmc : Cons Hmc vmc m.cons) : Spec Tryz.prog 32 [.agg #[vmd, vmc], .int .i64 v, .int .i64 a] [Hmd, Hmc] (fun Hq vq => Ints Hq vq (probI m v a)) := by
 refine spec_of Tryz.func32 rfl rfl rfl (fun B => ?_)
 refine kc_seq (kc_region ?_)
 refine kl_box rfl rfl (fun p1 H2 f3 a4 => ?_)
 refine kl_as rfl ?_
 refine kl_nil (kq_code ?_)
 refine kc_seq ?_
 refine kc_seq (kc_region ?_)
 refine kl_ldS rfl (by assumption) rfl ?_
 refine kl_callP rfl rfl (svalidMod_ok m (by assumption) (by assumption)) ?_
 refine kl_not rfl ?_
 refine kl_mv rfl ?_
 refine kl_join 8 18 (.bool (!(validModB m) || !(withinB v (0 : Int) ((m.doms.length : Int) - (1 : Int))))) (pc 1 rfl (pc 2 rfl (pc 3 rfl (pc 6 rfl (pc 10 rfl pn))))) (fun J9 => ?_) ?_
 ·rcases Bool.eq_false_or_eq_true (!(validModB m)) with g5 | g5
  ·skip
   refine kl_gF rfl rfl g5 ?_
   refine kl_gF rfl rfl g5 ?_
   refine kl_gF rfl rfl g5 ?_
   refine kl_gF rfl rfl g5 ?_
   refine kl_gF rfl rfl g5 ?_
   refine kl_gF rfl rfl g5 ?_
   refine kl_gF rfl rfl g5 ?_
   refine kl_orT (!(withinB v (0 : Int) ((m.doms.length : Int) - (1 : Int)))) rfl rfl g5 ?_
   exact J9 _ (pc 18 rfl (pc 1 rfl (pc 2 rfl (pc 3 rfl (pc 6 rfl (pc 10 rfl pn))))))
  ·skip
   have g5p := g5
   try simp only [Bool.not_eq_true', Bool.not_eq_false', decide_eq_true_eq, decide_eq_false_iff_not, Bool.and_eq_true, Bool.or_eq_false_iff, withinB_iff] at g5p
   refine kl_gT rfl rfl g5 ?_
   refine kl_mv rfl ?_
   refine kl_gT rfl rfl g5 ?_
   refine kl_fd rfl (by assumption) (fun p6 a7 => ?_)
   refine kl_gT rfl rfl g5 ?_
   refine kl_ld rfl (by assumption) ?_
   refine kl_gT rfl rfl g5 ?_
   refine kl_len rfl (by assumption) (fun l8 => ?_)
   refine kl_gT rfl rfl g5 ?_
   refine kl_sub rfl rfl (by omega) ?_
   refine kl_gT rfl rfl g5 ?_
   refine kl_callP rfl rfl (inRange_ok v (0 : Int) ((m.doms.length : Int) - (1 : Int))) ?_
   refine kl_gT rfl rfl g5 ?_
   refine kl_not rfl ?_
   refine kl_orF rfl rfl g5 ?_
   exact J9 _ (pc 18 rfl (pc 1 rfl (pc 2 rfl (pc 3 rfl (pc 6 rfl (pc 10 rfl pn))))))
 refine kl_mv rfl ?_
 refine kl_join 4 23 (.bool ((!(validModB m) || !(withinB v (0 : Int) ((m.doms.length : Int) - (1 : Int)))) || !(withinB a (0 : Int) (5 : Int)))) (pc 1 rfl (pc 2 rfl (pc 3 rfl (pc 6 rfl (pc 19 rfl pn))))) (fun J11 => ?_) ?_
 ·rcases Bool.eq_false_or_eq_true (!(validModB m) || !(withinB v (0 : Int) ((m.doms.length : Int) - (1 : Int)))) with g10 | g10
  ·skip
   refine kl_gF rfl rfl g10 ?_
   refine kl_gF rfl rfl g10 ?_
   refine kl_gF rfl rfl g10 ?_
   refine kl_orT (!(withinB a (0 : Int) (5 : Int))) rfl rfl g10 ?_
   exact J11 _ (pc 23 rfl (pc 1 rfl (pc 2 rfl (pc 3 rfl (pc 6 rfl (pc 19 rfl pn))))))
  ·skip
   have g10p := g10
   try simp only [Bool.not_eq_true', Bool.not_eq_false', decide_eq_true_eq, decide_eq_false_iff_not, Bool.and_eq_true, Bool.or_eq_false_iff, withinB_iff] at g10p
   refine kl_gT rfl rfl g10 ?_
   refine kl_mv rfl ?_
   refine kl_gT rfl rfl g10 ?_
   refine kl_callP rfl rfl (inRange_ok a (0 : Int) (5 : Int)) ?_
   refine kl_gT rfl rfl g10 ?_
   refine kl_not rfl ?_
   refine kl_orF rfl rfl g10 ?_
   exact J11 _ (pc 23 rfl (pc 1 rfl (pc 2 rfl (pc 3 rfl (pc 6 rfl (pc 19 rfl pn))))))
 refine kl_nil (kq_code ?_)
 refine kc_cond rfl (fun c12 => ?_) (fun c12 => ?_)
 ·skip
  have c12r := c12
  try simp only [Bool.not_eq_true', Bool.not_eq_false', Bool.not_true, Bool.not_false, decide_eq_true_eq, decide_eq_false_iff_not, Bool.and_eq_true, Bool.or_eq_false_iff] at c12
  refine kc_seq (kc_region ?_)
  refine kl_as rfl ?_
  refine kl_nil (kq_code ?_)
  refine kc_ret ?_
  exact kq_ret rfl rfl noHp (fr_no _) (by rw [prob_no (probS_c m v a) (by assumption)]; exact Sl.nil)
 ·skip
  have c12r := c12
  try simp only [Bool.not_eq_true', Bool.not_eq_false', Bool.not_true, Bool.not_false, decide_eq_true_eq, decide_eq_false_iff_not, Bool.and_eq_true, Bool.or_eq_false_iff] at c12
  have hok := prob_yes (probS_c m v a) c12r
  have hp := prob_g hok
  refine kc_skipQ ?_
  refine kq_code ?_
  refine kc_seq (kc_region ?_)
  refine kl_ldS rfl (by assumption) rfl ?_
  refine kl_fd rfl (by assumption) (fun p13 a14 => ?_)
  refine kl_ld rfl (by assumption) ?_
  refine kl_mv rfl ?_
  refine kl_mv rfl ?_
  refine kl_call rfl rfl (probeS_ok m m.doms v a hp.M (pset_ok hp).1 rfl hp.v hp.a (by assumption) (by assumption) (by assumption)) (fun v15 H16 f17 h18 => ?_)
  refine kl_as rfl ?_
  refine kl_nil (kq_code ?_)
  refine kc_ret ?_
  have e9 : (prop m (psetL m.doms v a)) = probI m v a := by exact prob_at hok
  exact kq_ret rfl rfl H16 f17 (e9 ▸ (by assumption : Ints _ _ (prop m (psetL m.doms v a))))
theorem contained_ok {Ha : Hp} {va : Value} {Hb : Hp} {vb : Value} (a : List Int) (b : List Int) (ha : Ints Ha va a) (hb : Ints Hb vb b) : SpecP Tryz.prog 34 [va, vb] [Ha, Hb] (.bool (contB a b)) := by
 refine spec_of Tryz.func34 rfl rfl rfl (fun B => ?_)
 refine kc_seq (kc_region ?_)
 refine kl_as rfl ?_
 refine kl_nil (kq_code ?_)
 refine kc_seq ?_
 refine kc_seq (kc_region ?_)
 refine kl_mv rfl ?_
 refine kl_len rfl (by assumption) (fun l1 => ?_)
 refine kl_mv rfl ?_
 refine kl_len rfl (by assumption) (fun l2 => ?_)
 refine kl_neq rfl rfl ?_
 refine kl_nil (kq_code ?_)
 refine kc_if rfl (fun c3 => ?_) (fun c3 => ?_)
 ·skip
  refine kc_seq (kc_region ?_)
  refine kl_as rfl ?_
  refine kl_nil (kq_code ?_)
  refine kc_ret ?_
  refine kq_retP rfl rfl (congrArg Value.bool ?_)
  exact cont_0 (by assumption)
 ·skip
  refine kc_skipQ ?_
  refine kq_code ?_
  refine kc_seq ?_
  refine kc_seq (kc_region ?_)
  refine kl_as rfl ?_
  refine kl_nil (kq_code ?_)
  refine kc_block ?_
  refine kc_loop0 (A := Nat) (fun zz => (zz ≤ a.length) ∧ ((List.range zz).all (fun i => decide (iand (a.getD i 0) (b.getD i 0) = a.getD i 0)) = true)) (fun zz => a.length - zz) (fun zz => [(5, .int .i64 (zz : Int))]) (0) (pc 0 rfl (pc 1 rfl pn)) (pc 5 rfl pn) ⟨Nat.zero_le _, (by simp)⟩ ?_
  rintro k hJ6
  obtain ⟨hk4, hi5⟩ : (k ≤ a.length) ∧ ((List.range k).all (fun i => decide (iand (a.getD i 0) (b.getD i 0) = a.getD i 0)) = true) := hJ6
  change KC _ _ (_) _ _ ([(5, .int .i64 (k : Int))] ++ _)
  refine kc_seq ?_
  refine kc_seq (kc_region ?_)
  refine kl_mv rfl ?_
  refine kl_mv rfl ?_
  refine kl_len rfl (by assumption) (fun l7 => ?_)
  refine kl_lss rfl rfl ?_
  refine kl_nil (kq_code ?_)
  refine kc_if rfl (fun c8 => ?_) (fun c8 => ?_)
  ·skip
   refine kc_skipQ ?_
   refine kq_code ?_
   refine kc_seq ?_
   refine kc_block ?_
   refine kc_seq ?_
   refine kc_draw 14 [true, true, true, true, true, true, true, true, true, true, true, true, true, true] (by kernel_rfl) (by kernel_rfl) ?_
   refine kl_mv rfl ?_
   refine kl_mv rfl ?_
   refine kl_inI rfl rfl (by assumption) (by omega) (fun p9 a10 => ?_)
   refine kl_ld rfl (by assumption) ?_
   refine kl_mv rfl ?_
   refine kl_mv rfl ?_
   refine kl_inI rfl rfl (by assumption) (by omega) (fun p11 a12 => ?_)
   refine kl_ld rfl (by assumption) ?_
   refine kl_and rfl rfl ?_
   refine kl_mv rfl ?_
   refine kl_mv rfl ?_
   refine kl_inI rfl rfl (by assumption) (by omega) (fun p13 a14 => ?_)
   refine kl_ld rfl (by assumption) ?_
   refine kl_neq rfl rfl ?_
   refine kl_nil (kq_code ?_)
   refine kc_if rfl (fun c15 => ?_) (fun c15 => ?_)
   ·skip
    refine kc_seq (kc_region ?_)
    refine kl_as rfl ?_
    refine kl_nil (kq_code ?_)
    refine kc_ret ?_
    refine kq_retP rfl rfl (congrArg Value.bool ?_)
    exact cont_at (k := k) (by omega) (by assumption)
   ·skip
    refine kc_skipQ ?_
    refine kq_code ?_
    refine kc_region ?_
    refine kl_mv rfl ?_
    refine kl_inc rfl rfl (by omega) ?_
    refine kl_as rfl ?_
    refine kl_nil ?_
    refine kq_round0 ((k + 1)) (by omega) (⟨by omega, cont_step hi5 (by assumption)⟩) (pc 5 rfl pn) (pc 0 rfl (pc 1 rfl pn)) (List.Sublist.refl _)
  ·skip
   refine kc_exit ?_
   refine kq_code ?_
   refine kc_seq (kc_region ?_)
   refine kl_as rfl ?_
   refine kl_nil (kq_code ?_)
   refine kc_ret ?_
   refine kq_retP rfl rfl (congrArg Value.bool ?_)
   exact cont_end (k := k) (by assumption) (by omega) hi5
theorem drawPr_ok {Hcode : Hp} {vcode : Value} (code : List Int) (hcode : Bytes Hcode vcode code) : Spec Tryz.prog 30 [vcode] [Hcode] (fun Hq vq => ∃ (mq : Mod) (z1 : Int) (z2 : Int) (uq0a uq0b : Value), vq = .tuple #[.agg #[uq0a, uq0b], .int .i64 z1, .int .i64 z2] ∧ Ints Hq uq0a mq.doms ∧ Cons Hq uq0b mq.cons ∧ ModSm 100 mq) := by
 refine spec_ofR Tryz.func30 rfl rfl rfl (fun B => ?_)
 refine kc_seq (kc_region ?_)
 refine kl_alloc (cs := [.slice none 0 0, .slice none 0 0]) rfl (fun b1 hb2 => ?_)
 refine kl_as rfl ?_
 refine kl_as rfl ?_
 refine kl_nil (kq_code (kc_seq (kc_region ?_)))
 refine kl_mv rfl ?_
 refine kl_callT rfl rfl (newReader_ok code hcode) (fun v3 L1 Ln K7 h4 f5 f6 => ?_)
 obtain ⟨rfl, b8, v9, x10, rfl, rfl, h11⟩ := h4
 refine kl_norm ?_
 refine kl_as rfl ?_
 refine kl_nil (kq_code (kc_seq (kc_region ?_)))
 refine kl_mv rfl ?_
 refine kl_callT rfl rfl (searchModel_ok 0 (by omega) h11) (fun v12 L1 Ln K16 h13 f14 f15 => ?_)
 obtain ⟨q17, h18, rfl, H21, M23, v24, v25, z19, rfl, rfl, o22, o26, h20⟩ := h13
 have f27 := f14 _ (.head _)
 have f28 := f14 _ (.tail _ (.head _))
 have hd1 := h20.d1
 have hd4 := h20.d
 have hc1 := h20.c
 have hcc := h20.cc
 refine kl_norm ?_
 refine kl_alloc (cs := [.slice none 0 0, .slice none 0 0]) rfl (fun b29 hb30 => ?_)
 refine kl_stW (us := [v24, v25]) rfl rfl rfl rfl (oc (OwnL.oneCell (by assumption)) (oc (OwnL.oneCell (by assumption)) oc_nil)) rfl ?_
 refine kl_chg [sing b29 (.cells [v24, v25].toArray 32 (0, 0)), sing b8 (.cells [v9, .int .i64 (q17 : Int)].toArray 113 (0, 0)), H21, M23, sing b1 (.cells [.slice none 0 0, .slice none 0 0].toArray 32 (0, 0))] rfl ?_
 refine kl_nil (kq_code (kc_seq (kc_region ?_)))
 refine kl_mv rfl ?_
 refine kl_fdV rfl ?_
 refine kl_ldB rfl rfl ?_
 refine kl_lenL rfl o22 (fun l31 => ?_)
 refine kl_callT rfl rfl (pick_ok q17 (z19.doms.length : Int) (by omega) h11) (fun v32 L1 Ln K36 h33 f34 f35 => ?_)
 obtain ⟨q37, h38, rfl, rfl, z39, rfl, h40⟩ := h33
 refine kl_norm ?_
 refine kl_as rfl ?_
 refine kl_nil (kq_code (kc_seq (kc_region ?_)))
 refine kl_mv rfl ?_
 refine kl_callT rfl rfl (pick_ok q37 (6 : Int) (by omega) h11) (fun v43 L1 Ln K47 h44 f45 f46 => ?_)
 obtain ⟨q48, h49, rfl, rfl, z50, rfl, h51⟩ := h44
 refine kl_norm ?_
 refine kl_as rfl ?_
 refine kl_nil (kq_code ?_)
 refine kc_seq ?_
 refine kc_seq (kc_region ?_)
 refine kl_mv rfl ?_
 refine kl_callT rfl rfl (pick_ok q48 (14 : Int) (by omega) h11) (fun v54 L1 Ln K58 h55 f56 f57 => ?_)
 obtain ⟨q59, h60, rfl, rfl, z61, rfl, h62⟩ := h55
 refine kl_norm ?_
 refine kl_nil (kq_code ?_)
 refine kc_block ?_
 refine kc_seq (kc_region ?_)
 refine kl_eql rfl rfl ?_
 refine kl_as rfl ?_
 refine kl_nil (kq_code ?_)
 refine kc_if rfl (fun c65 => ?_) (fun c65 => ?_)
 ·skip
  refine kc_region ?_
  refine kl_mv rfl ?_
  refine kl_fdV rfl ?_
  refine kl_ldB rfl rfl ?_
  refine kl_lenL rfl o22 (fun l66 => ?_)
  refine kl_bs rfl rfl rfl (by decide) (ca rfl (ca rfl ca_nil)) (fun v67 H68 f69 r70 s71 => ?_)
  have h72 : Ints H68 v67 [(-1 : Int), (z19.doms.length : Int)] := litInts (xs := [(-1 : Int), (z19.doms.length : Int)]) (by simpa using s71)
  refine kl_callT rfl rfl (one_ok q59 ([(-1 : Int), (z19.doms.length : Int)]) (by simp) (by omega) h11 (by assumption)) (fun v73 L1 Ln K77 h74 f75 f76 => ?_)
  obtain ⟨q78, h79, rfl, rfl, z80, rfl, h81⟩ := h74
  refine kl_norm ?_
  refine kl_as rfl ?_
  refine kl_nil (kq_code (kc_seq (kc_region ?_)))
  refine kl_ldW rfl rfl ?_
  refine kl_mv rfl ?_
  refine kl_mv rfl ?_
  refine kl_stW (us := [v24, v25]) rfl rfl rfl rfl (oc (OwnL.oneCell (by assumption)) (oc (OwnL.oneCell (by assumption)) oc_nil)) rfl ?_
  refine kl_chg [sing b8 (.cells [v9, .int .i64 (q78 : Int)].toArray 113 (0, 0)), sing b29 (.cells [v24, v25].toArray 32 (0, 0)), H21, M23, sing b1 (.cells [v24, v25].toArray 32 (0, 0))] rfl ?_
  refine kl_as rfl ?_
  refine kl_as rfl ?_
  refine kl_nil (kq_code ?_)
  refine kc_ret ?_
  refine kq_frz H21 ?_
  refine kq_frz M23 ?_
  refine kq_cmp M23 K16 (fun c84 => ?_)
  refine kq_cmp H21 (orHp M23 K16) (fun c85 => ?_)
  exact kq_retR (rss3 rfl (rs_agg rfl rfl) (rs_tmp rfl) (rs_tmp rfl)) (orHp H21 (orHp M23 K16)) (fr_or f27 (fr_or f28 f15)) ⟨(⟨z19.doms, z19.cons⟩ : Mod), z80, z50, _, _, rfl, (Sl.mono (OwnL.ints o22) (fun b o h => orL b o h) (fun _ _ h => h)), (Cons.mono' (OwnL.consK o26 c84) (fun b o h => orC c85 b o h)), by (constructor <;> dsimp only <;> first | omega | assumption)⟩ .none
 ·skip
  refine kc_seq (kc_region ?_)
  refine kl_eql rfl rfl ?_
  refine kl_as rfl ?_
  refine kl_nil (kq_code ?_)
  refine kc_if rfl (fun c86 => ?_) (fun c86 => ?_)
  ·skip
   refine kc_region ?_
   refine kl_mv rfl ?_
   refine kl_bs rfl rfl rfl (by decide) (ca rfl (ca rfl ca_nil)) (fun v87 H88 f89 r90 s91 => ?_)
   have h92 : Ints H88 v87 [(-1 : Int), (6 : Int)] := litInts (xs := [(-1 : Int), (6 : Int)]) (by simpa using s91)
   refine kl_callT rfl rfl (one_ok q59 ([(-1 : Int), (6 : Int)]) (by simp) (by omega) h11 (by assumption)) (fun v93 L1 Ln K97 h94 f95 f96 => ?_)
   obtain ⟨q98, h99, rfl, rfl, z100, rfl, h101⟩ := h94
   refine kl_norm ?_
   refine kl_as rfl ?_
   refine kl_nil (kq_code (kc_seq (kc_region ?_)))
   refine kl_ldW rfl rfl ?_
   refine kl_mv rfl ?_
   refine kl_mv rfl ?_
   refine kl_stW (us := [v24, v25]) rfl rfl rfl rfl (oc (OwnL.oneCell (by assumption)) (oc (OwnL.oneCell (by assumption)) oc_nil)) rfl ?_
   refine kl_chg [sing b8 (.cells [v9, .int .i64 (q98 : Int)].toArray 113 (0, 0)), sing b29 (.cells [v24, v25].toArray 32 (0, 0)), H21, M23, sing b1 (.cells [v24, v25].toArray 32 (0, 0))] rfl ?_
   refine kl_as rfl ?_
   refine kl_as rfl ?_
   refine kl_nil (kq_code ?_)
   refine kc_ret ?_
   refine kq_frz H21 ?_
   refine kq_frz M23 ?_
   refine kq_cmp M23 K16 (fun c104 => ?_)
   refine kq_cmp H21 (orHp M23 K16) (fun c105 => ?_)
   exact kq_retR (rss3 rfl (rs_agg rfl rfl) (rs_tmp rfl) (rs_tmp rfl)) (orHp H21 (orHp M23 K16)) (fr_or f27 (fr_or f28 f15)) ⟨(⟨z19.doms, z19.cons⟩ : Mod), z39, z100, _, _, rfl, (Sl.mono (OwnL.ints o22) (fun b o h => orL b o h) (fun _ _ h => h)), (Cons.mono' (OwnL.consK o26 c104) (fun b o h => orC c105 b o h)), by (constructor <;> dsimp only <;> first | omega | assumption)⟩ .none
  ·skip
   refine kc_skipQ ?_
   refine kq_code ?_
   refine kc_seq (kc_region ?_)
   refine kl_ldW rfl rfl ?_
   refine kl_mv rfl ?_
   refine kl_mv rfl ?_
   refine kl_stW (us := [v24, v25]) rfl rfl rfl rfl (oc (OwnL.oneCell (by assumption)) (oc (OwnL.oneCell (by assumption)) oc_nil)) rfl ?_
   refine kl_chg [sing b8 (.cells [v9, .int .i64 (q59 : Int)].toArray 113 (0, 0)), sing b29 (.cells [v24, v25].toArray 32 (0, 0)), H21, M23, sing b1 (.cells [v24, v25].toArray 32 (0, 0))] rfl ?_
   refine kl_as rfl ?_
   refine kl_as rfl ?_
   refine kl_nil (kq_code ?_)
   refine kc_ret ?_
   refine kq_frz H21 ?_
   refine kq_frz M23 ?_
   refine kq_cmp M23 K16 (fun c106 => ?_)
   refine kq_cmp H21 (orHp M23 K16) (fun c107 => ?_)
   exact kq_retR (rss3 rfl (rs_agg rfl rfl) (rs_tmp rfl) (rs_tmp rfl)) (orHp H21 (orHp M23 K16)) (fr_or f27 (fr_or f28 f15)) ⟨(⟨z19.doms, z19.cons⟩ : Mod), z39, z50, _, _, rfl, (Sl.mono (OwnL.ints o22) (fun b o h => orL b o h) (fun _ _ h => h)), (Cons.mono' (OwnL.consK o26 c106) (fun b o h => orC c107 b o h)), by (constructor <;> dsimp only <;> first | omega | assumption)⟩ .none
theorem lawFnPr_ok {Hcode : Hp} {vcode : Value} (code : List Int) (hcode : Bytes Hcode vcode code) : SpecP Tryz.prog 7 [vcode] [Hcode] (.bool true) := by
 refine spec_of Tryz.func7 rfl rfl rfl (fun B => ?_)
 refine kc_seq (kc_region ?_)
 refine kl_as rfl ?_
 refine kl_nil (kq_code ?_)
 refine kc_seq ?_
 refine kc_seq (kc_region ?_)
 refine kl_mv rfl ?_
 refine kl_len rfl (by assumption) (fun l1 => ?_)
 refine kl_gtr rfl rfl ?_
 refine kl_nil (kq_code ?_)
 refine kc_if rfl (fun c2 => ?_) (fun c2 => ?_)
 ·skip
  refine kc_seq (kc_region ?_)
  refine kl_as rfl ?_
  refine kl_nil (kq_code ?_)
  refine kc_ret ?_
  refine kq_retP rfl rfl (congrArg Value.bool ?_)
  first | exact prob_fin hok | rfl | (simp; done)
 ·skip
  refine kc_skipQ ?_
  refine kq_code ?_
  refine kc_seq (kc_region ?_)
  refine kl_mv rfl ?_
  refine kl_call rfl rfl (drawPr_ok code hcode) (fun v3 H4 f5 h6 => ?_)
  obtain ⟨z9, z14, z15, u10, u11, rfl, h12, h13, h8⟩ := h6
  refine kl_mv rfl ?_
  refine kl_xt rfl rfl ?_
  refine kl_xt rfl rfl ?_
  refine kl_xt rfl rfl ?_
  refine kl_alloc (cs := [.slice none 0 0, .slice none 0 0]) rfl (fun b16 hb17 => ?_)
  refine kl_stW (us := [u10, u11]) rfl rfl rfl rfl (oc (Sl.oneCell (by assumption)) (oc (Sl.oneCell (by assumption)) oc_nil)) rfl ?_
  refine kl_chg [sing b16 (.cells [u10, u11].toArray 32 (0, 0))] rfl ?_
  refine kl_as rfl ?_
  refine kl_as rfl ?_
  refine kl_nil (kq_code (kc_seq (kc_region ?_)))
  refine kl_ldW rfl rfl ?_
  refine kl_mv rfl ?_
  refine kl_mv rfl ?_
  refine kl_call rfl rfl (probI_ok z9 z14 z15 (by assumption) (by assumption)) (fun v18 H19 f20 h21 => ?_)
  refine kl_as rfl ?_
  refine kl_nil (kq_code ?_)
  refine kc_seq ?_
  refine kc_seq (kc_region ?_)
  refine kl_mv rfl ?_
  refine kl_ldW rfl rfl ?_
  refine kl_mv rfl ?_
  refine kl_mv rfl ?_
  refine kl_call rfl rfl (probS_ok z9 z14 z15 (by assumption) (by assumption)) (fun v22 H23 f24 h25 => ?_)
  refine kl_callP rfl rfl (equalInts_ok (probI z9 z14 z15) (probI z9 z14 z15) (by assumption) (by assumption)) ?_
  refine kl_not rfl ?_
  refine kl_mv rfl ?_
  refine kl_join 4 34 (.bool (!(decide ((probI z9 z14 z15) = (probI z9 z14 z15))) || decide (((probI z9 z14 z15).length : Int) = (0 : Int)))) (pc 2 rfl (pc 3 rfl (pc 4 rfl (pc 5 rfl (pc 6 rfl (pc 30 rfl pn)))))) (fun J28 => ?_) ?_
  ·rcases Bool.eq_false_or_eq_true (!(decide ((probI z9 z14 z15) = (probI z9 z14 z15)))) with g26 | g26
   ·skip
    refine kl_gF rfl rfl g26 ?_
    refine kl_gF rfl rfl g26 ?_
    refine kl_gF rfl rfl g26 ?_
    refine kl_orT (decide (((probI z9 z14 z15).length : Int) = (0 : Int))) rfl rfl g26 ?_
    exact J28 _ (pc 34 rfl (pc 2 rfl (pc 3 rfl (pc 4 rfl (pc 5 rfl (pc 6 rfl (pc 30 rfl pn)))))))
   ·skip
    have g26p := g26
    try simp only [Bool.not_eq_true', Bool.not_eq_false', decide_eq_true_eq, decide_eq_false_iff_not, Bool.and_eq_true, Bool.or_eq_false_iff, withinB_iff] at g26p
    refine kl_gT rfl rfl g26 ?_
    refine kl_mv rfl ?_
    refine kl_gT rfl rfl g26 ?_
    refine kl_len rfl (by assumption) (fun l27 => ?_)
    refine kl_gT rfl rfl g26 ?_
    refine kl_eql rfl rfl ?_
    refine kl_orF rfl rfl g26 ?_
    exact J28 _ (pc 34 rfl (pc 2 rfl (pc 3 rfl (pc 4 rfl (pc 5 rfl (pc 6 rfl (pc 30 rfl pn)))))))
  refine kl_nil (kq_code ?_)
  refine kc_cond rfl (fun c29 => ?_) (fun c29 => ?_)
  ·skip
   have c29r := c29
   try simp only [Bool.not_eq_true', Bool.not_eq_false', Bool.not_true, Bool.not_false, decide_eq_true_eq, decide_eq_false_iff_not, Bool.and_eq_true, Bool.or_eq_false_iff] at c29
   refine kc_seq (kc_region ?_)
   refine kl_mv rfl ?_
   refine kl_ldW rfl rfl ?_
   refine kl_mv rfl ?_
   refine kl_mv rfl ?_
   refine kl_call rfl rfl (probS_ok z9 z14 z15 (by assumption) (by assumption)) (fun v30 H31 f32 h33 => ?_)
   refine kl_callP rfl rfl (equalInts_ok (probI z9 z14 z15) (probI z9 z14 z15) (by assumption) (by assumption)) ?_
   refine kl_as rfl ?_
   refine kl_nil (kq_code ?_)
   refine kc_ret ?_
   refine kq_retP rfl rfl (congrArg Value.bool ?_)
   first | exact prob_fin hok | rfl | (simp; done)
  ·skip
   have c29r := c29
   try simp only [Bool.not_eq_true', Bool.not_eq_false', Bool.not_true, Bool.not_false, decide_eq_true_eq, decide_eq_false_iff_not, Bool.and_eq_true, Bool.or_eq_false_iff] at c29
   have hok := prob_ne c29r
   have hp := prob_g hok
   have hv := hp.v
   have hpl := (prob_DOk hok).l
   have hn := hp.M.n
   refine kc_skipQ ?_
   refine kq_code ?_
   refine kc_seq (kc_region ?_)
   refine kl_ldW rfl rfl ?_
   refine kl_call rfl rfl (solveAll_ok z9 (by assumption) (by assumption)) (fun v34 H35 f36 h37 => ?_)
   refine kl_as rfl ?_
   refine kl_nil (kq_code ?_)
   refine kc_seq ?_
   refine kc_seq (kc_region ?_)
   refine kl_as rfl ?_
   refine kl_nil (kq_code ?_)
   refine kc_block ?_
   refine kc_loop0 (A := Nat) (fun zz => (zz ≤ (solL z9).length)) (fun zz => (solL z9).length - zz) (fun zz => [(8, .int .i64 (zz : Int))]) (0) (pc 3 rfl (pc 4 rfl (pc 5 rfl (pc 6 rfl (pc 7 rfl pn))))) (pc 8 rfl pn) (Nat.zero_le _) ?_
   rintro k hJ40
   have hk38 : (k ≤ (solL z9).length) := hJ40
   change KC _ _ (_) _ _ ([(8, .int .i64 (k : Int))] ++ _)
   refine kc_seq ?_
   refine kc_seq (kc_region ?_)
   refine kl_mv rfl ?_
   refine kl_mv rfl ?_
   refine kl_len rfl (by assumption) (fun l41 => ?_)
   refine kl_lss rfl rfl ?_
   refine kl_nil (kq_code ?_)
   refine kc_if rfl (fun c42 => ?_) (fun c42 => ?_)
   ·skip
    have hrl := solLk_len c42
    refine kc_skipQ ?_
    refine kq_code ?_
    refine kc_seq ?_
    refine kc_block ?_
    refine kc_seq (kc_region ?_)
    refine kl_as rfl ?_
    refine kl_nil (kq_code ?_)
    refine kc_block ?_
    refine kc_loop0 (A := Nat) (fun zz => (zz ≤ (probI z9 z14 z15).length)) (fun zz => (probI z9 z14 z15).length - zz) (fun zz => [(9, .int .i64 (zz : Int))]) (0) (pc 3 rfl (pc 4 rfl (pc 5 rfl (pc 6 rfl (pc 7 rfl (pc 8 rfl (pc 43 rfl (pc 44 rfl (pc 45 rfl (pc 46 rfl pn)))))))))) (pc 9 rfl pn) (Nat.zero_le _) ?_
    rintro k2 hJ45
    have hk43 : (k2 ≤ (probI z9 z14 z15).length) := hJ45
    change KC _ _ (_) _ _ ([(9, .int .i64 (k2 : Int))] ++ _)
    refine kc_seq ?_
    refine kc_seq (kc_region ?_)
    refine kl_mv rfl ?_
    refine kl_mv rfl ?_
    refine kl_len rfl (by assumption) (fun l46 => ?_)
    refine kl_lss rfl rfl ?_
    refine kl_mv rfl ?_
    refine kl_join 10 63 (.bool (decide ((k2 : Int) < ((probI z9 z14 z15).length : Int)) && decide ((((solL z9).getD k []).getD z14.toNat 0) = z15))) (pc 3 rfl (pc 4 rfl (pc 5 rfl (pc 6 rfl (pc 7 rfl (pc 8 rfl (pc 9 rfl (pc 43 rfl (pc 44 rfl (pc 45 rfl (pc 46 rfl (pc 49 rfl (pc 50 rfl (pc 51 rfl (pc 52 rfl (pc 53 rfl pn)))))))))))))))) (fun J54 => ?_) ?_
    ·rcases Bool.eq_false_or_eq_true (decide ((k2 : Int) < ((probI z9 z14 z15).length : Int))) with g47 | g47
     ·skip
      have g47p := of_decide_eq_true g47
      refine kl_gT rfl rfl g47 ?_
      refine kl_mv rfl ?_
      refine kl_gT rfl rfl g47 ?_
      refine kl_mv rfl ?_
      refine kl_gT rfl rfl g47 ?_
      refine kl_inS rfl rfl (by assumption) (by omega) (fun p48 u50 h51 a49 => ?_)
      refine kl_gT rfl rfl g47 ?_
      refine kl_ld rfl (by assumption) ?_
      refine kl_gT rfl rfl g47 ?_
      refine kl_mv rfl ?_
      refine kl_gT rfl rfl g47 ?_
      refine kl_ixI rfl rfl (by assumption) (by omega) (by omega) (fun p52 a53 => ?_)
      refine kl_gT rfl rfl g47 ?_
      refine kl_ld rfl (by assumption) ?_
      refine kl_gT rfl rfl g47 ?_
      refine kl_mv rfl ?_
      refine kl_gT rfl rfl g47 ?_
      refine kl_eql rfl rfl ?_
      refine kl_andT rfl rfl g47 ?_
      exact J54 _ (pc 63 rfl (pc 3 rfl (pc 4 rfl (pc 5 rfl (pc 6 rfl (pc 7 rfl (pc 8 rfl (pc 9 rfl (pc 43 rfl (pc 44 rfl (pc 45 rfl (pc 46 rfl (pc 49 rfl (pc 50 rfl (pc 51 rfl (pc 52 rfl (pc 53 rfl pn)))))))))))))))))
     ·skip
      refine kl_gF rfl rfl g47 ?_
      refine kl_gF rfl rfl g47 ?_
      refine kl_gF rfl rfl g47 ?_
      refine kl_gF rfl rfl g47 ?_
      refine kl_gF rfl rfl g47 ?_
      refine kl_gF rfl rfl g47 ?_
      refine kl_gF rfl rfl g47 ?_
      refine kl_gF rfl rfl g47 ?_
      refine kl_gF rfl rfl g47 ?_
      refine kl_andF (decide ((((solL z9).getD k []).getD z14.toNat 0) = z15)) rfl rfl g47 ?_
      exact J54 _ (pc 63 rfl (pc 3 rfl (pc 4 rfl (pc 5 rfl (pc 6 rfl (pc 7 rfl (pc 8 rfl (pc 9 rfl (pc 43 rfl (pc 44 rfl (pc 45 rfl (pc 46 rfl (pc 49 rfl (pc 50 rfl (pc 51 rfl (pc 52 rfl (pc 53 rfl pn)))))))))))))))))
    refine kl_nil (kq_code ?_)
    refine kc_cond rfl (fun c55 => ?_) (fun c55 => ?_)
    ·skip
     have c55r := c55
     try simp only [Bool.not_eq_true', Bool.not_eq_false', Bool.not_true, Bool.not_false, decide_eq_true_eq, decide_eq_false_iff_not, Bool.and_eq_true, Bool.or_eq_false_iff] at c55
     have hc9 := c55
     refine kc_skipQ ?_
     refine kq_code ?_
     refine kc_seq ?_
     refine kc_block ?_
     refine kc_seq ?_
     refine kc_tree (fun i => ([11] : List Nat).contains i) [] (by kernel_rfl) ?_
     refine kt_q 0 (List.nil_sublist _) rfl (by kernel_rfl) ?_
     refine kl_mv rfl ?_
     refine kl_nil (kq_q ?_)
     refine kt_q 1 (List.nil_sublist _) rfl (by kernel_rfl) ?_
     refine kl_mv rfl ?_
     refine kl_nil (kq_q ?_)
     refine kt_q 2 (List.nil_sublist _) rfl (by kernel_rfl) ?_
     refine kl_inI rfl rfl (by assumption) (by omega) (fun p56 a57 => ?_)
     refine kl_nil (kq_q ?_)
     refine kt_q 3 (List.nil_sublist _) rfl (by kernel_rfl) ?_
     refine kl_ld rfl (by assumption) ?_
     refine kl_nil (kq_q ?_)
     refine kt_q 4 (List.nil_sublist _) rfl (by kernel_rfl) ?_
     refine kl_mv rfl ?_
     refine kl_nil (kq_q ?_)
     refine kt_q 5 (List.nil_sublist _) rfl (by kernel_rfl) ?_
     refine kl_mv rfl ?_
     refine kl_nil (kq_q ?_)
     refine kt_q 6 (List.nil_sublist _) rfl (by kernel_rfl) ?_
     refine kl_inS rfl rfl (by assumption) (by omega) (fun p58 u60 h61 a59 => ?_)
     refine kl_nil (kq_q ?_)
     refine kt_q 7 (List.nil_sublist _) rfl (by kernel_rfl) ?_
     refine kl_ld rfl (by assumption) ?_
     refine kl_nil (kq_q ?_)
     refine kt_q 8 (List.nil_sublist _) rfl (by kernel_rfl) ?_
     refine kl_mv rfl ?_
     refine kl_nil (kq_q ?_)
     refine kt_q 9 (List.nil_sublist _) rfl (by kernel_rfl) ?_
     refine kl_inI rfl rfl (by assumption) (by omega) (fun p62 a63 => ?_)
     refine kl_nil (kq_q ?_)
     refine kt_q 10 (List.nil_sublist _) rfl (by kernel_rfl) ?_
     refine kl_ld rfl (by assumption) ?_
     refine kl_nil (kq_q ?_)
     refine kt_a 11 rfl (by kernel_rfl) ?_
     refine kl_callP rfl rfl (domainHasI_ok ((probI z9 z14 z15).getD k2 0) (((solL z9).getD k []).getD k2 0)) ?_
     refine kl_nil (kq_x rfl ?_)
     refine kt_q 12 (List.nil_sublist _) rfl (by kernel_rfl) ?_
     refine kl_not rfl ?_
     refine kl_nil (kq_q ?_)
     refine kt_end (by kernel_rfl) ?_
     refine kq_code ?_
     refine kc_cond rfl (fun c64 => ?_) (fun c64 => ?_)
     ·skip
      have c64r := c64
      try simp only [Bool.not_eq_true', Bool.not_eq_false', Bool.not_true, Bool.not_false, decide_eq_true_eq, decide_eq_false_iff_not, Bool.and_eq_true, Bool.or_eq_false_iff] at c64
      exact absurd c64r (by rw [prob_has hok (by omega) (by omega) hc9.2]; simp)
     ·skip
      have c64r := c64
      try simp only [Bool.not_eq_true', Bool.not_eq_false', Bool.not_true, Bool.not_false, decide_eq_true_eq, decide_eq_false_iff_not, Bool.and_eq_true, Bool.or_eq_false_iff] at c64
      refine kc_skipQ ?_
      refine kq_code ?_
      refine kc_region ?_
      refine kl_mv rfl ?_
      refine kl_inc rfl rfl (by omega) ?_
      refine kl_as rfl ?_
      refine kl_nil ?_
      refine kq_round0 ((k2 + 1)) (by omega) (by omega) (pc 9 rfl pn) (pc 3 rfl (pc 4 rfl (pc 5 rfl (pc 6 rfl (pc 7 rfl (pc 8 rfl (pc 43 rfl (pc 44 rfl (pc 45 rfl (pc 46 rfl pn)))))))))) (List.Sublist.refl _)
    ·skip
     have c55r := c55
     try simp only [Bool.not_eq_true', Bool.not_eq_false', Bool.not_true, Bool.not_false, decide_eq_true_eq, decide_eq_false_iff_not, Bool.and_eq_true, Bool.or_eq_false_iff] at c55
     refine kc_exit ?_
     refine kq_code ?_
     refine kc_region ?_
     refine kl_mv rfl ?_
     refine kl_inc rfl rfl (by omega) ?_
     refine kl_as rfl ?_
     refine kl_nil ?_
     refine kq_round0 ((k + 1)) (by omega) (by omega) (pc 8 rfl pn) (pc 3 rfl (pc 4 rfl (pc 5 rfl (pc 6 rfl (pc 7 rfl pn))))) (List.Sublist.refl _)
   ·skip
    refine kc_exit ?_
    refine kq_code ?_
    refine kc_seq (kc_region ?_)
    refine kl_mv rfl ?_
    refine kl_ldW rfl rfl ?_
    refine kl_call rfl rfl (propagateI_ok z9 (by assumption) (by assumption)) (fun v65 H66 f67 h68 => ?_)
    refine kl_callP rfl rfl (contained_ok (probI z9 z14 z15) (propI z9) (by assumption) (by assumption)) ?_
    refine kl_mv rfl ?_
    refine kl_join 14 97 (.bool ((contB (probI z9 z14 z15) (propI z9)) && (decide ((0 : Int) < ((probI z9 z14 z15).getD 0 0)) || decide ((cwI z9 ([(⟨z14, z15, false⟩ : Lit)])) = (0 : Int))))) (pc 83 rfl pn) (fun J79 => ?_) ?_
    ·rcases Bool.eq_false_or_eq_true (contB (probI z9 z14 z15) (propI z9)) with g69 | g69
     ·skip
      have g69p := g69
      try simp only [Bool.not_eq_true', Bool.not_eq_false', decide_eq_true_eq, decide_eq_false_iff_not, Bool.and_eq_true, Bool.or_eq_false_iff, withinB_iff] at g69p
      refine kl_gT rfl rfl g69 ?_
      refine kl_mv rfl ?_
      refine kl_gT rfl rfl g69 ?_
      refine kl_inI (i := 0) rfl rfl (by assumption) (by omega) (fun p70 a71 => ?_)
      refine kl_gT rfl rfl g69 ?_
      refine kl_ld rfl (by assumption) ?_
      refine kl_gT rfl rfl g69 ?_
      refine kl_gtr rfl rfl ?_
      refine kl_gT rfl rfl g69 ?_
      refine kl_mv rfl ?_
      refine kl_join 8 96 (.bool (decide ((0 : Int) < ((probI z9 z14 z15).getD 0 0)) || decide ((cwI z9 ([(⟨z14, z15, false⟩ : Lit)])) = (0 : Int)))) (pc 83 rfl (pc 88 rfl pn)) (fun J78 => ?_) ?_
      ·rcases Bool.eq_false_or_eq_true (decide ((0 : Int) < ((probI z9 z14 z15).getD 0 0))) with g72 | g72
       ·skip
        refine kl_gF rfl rfl g72 ?_
        refine kl_gF rfl rfl g72 ?_
        refine kl_gF rfl rfl g72 ?_
        refine kl_gF rfl rfl g72 ?_
        refine kl_gF rfl rfl g72 ?_
        refine kl_gF rfl rfl g72 ?_
        refine kl_gF rfl rfl g72 ?_
        refine kl_gT rfl rfl g69 ?_
        refine kl_orT (decide ((cwI z9 ([(⟨z14, z15, false⟩ : Lit)])) = (0 : Int))) rfl rfl g72 ?_
        exact J78 _ (pc 96 rfl (pc 83 rfl (pc 88 rfl pn)))
       ·skip
        have g72p := of_decide_eq_false g72
        refine kl_gT rfl rfl g72 ?_
        refine kl_ldW rfl rfl ?_
        refine kl_gT rfl rfl g72 ?_
        refine kl_mv rfl ?_
        refine kl_gT rfl rfl g72 ?_
        refine kl_mv rfl ?_
        refine kl_gT rfl rfl g72 ?_
        refine kl_bd rfl (cp rfl (cp rfl cp_nil)) rfl ?_
        refine kl_gT rfl rfl g72 ?_
        refine kl_bsQ rfl (fun v73 H74 f75 r76 h77 => ?_)
        refine kl_gT rfl rfl g72 ?_
        refine kl_callP rfl rfl (cwImp_ok z9 ([(⟨z14, z15, false⟩ : Lit)]) (by assumption) (by assumption) (by assumption)) ?_
        refine kl_gT rfl rfl g72 ?_
        refine kl_eql rfl rfl ?_
        refine kl_gT rfl rfl g69 ?_
        refine kl_orF rfl rfl g72 ?_
        exact kl_fg (List.Sublist.refl _) (J78 _ (pc 96 rfl (pc 83 rfl (pc 88 rfl pn))))
      refine kl_andT rfl rfl g69 ?_
      exact kl_fg (List.Sublist.refl _) (J79 _ (pc 97 rfl (pc 83 rfl pn)))
     ·skip
      refine kl_gF rfl rfl g69 ?_
      refine kl_gF rfl rfl g69 ?_
      refine kl_gF rfl rfl g69 ?_
      refine kl_gF rfl rfl g69 ?_
      refine kl_gF rfl rfl g69 ?_
      refine kl_gU rfl rfl ?_
      refine kl_gU rfl rfl ?_
      refine kl_gU rfl rfl ?_
      refine kl_gU rfl rfl ?_
      refine kl_gU rfl rfl ?_
      refine kl_gU rfl rfl ?_
      refine kl_gU rfl rfl ?_
      refine kl_gF rfl rfl g69 ?_
      refine kl_andF (decide ((0 : Int) < ((probI z9 z14 z15).getD 0 0)) || decide ((cwI z9 ([(⟨z14, z15, false⟩ : Lit)])) = (0 : Int))) rfl rfl g69 ?_
      exact J79 _ (pc 97 rfl (pc 83 rfl pn))
    refine kl_as rfl ?_
    refine kl_nil (kq_code ?_)
    refine kc_ret ?_
    refine kq_retP rfl rfl (congrArg Value.bool ?_)
    first | exact prob_fin hok | rfl | (simp; done)
end Go.Proofs.YtbbphbihgikmdaaGreat
