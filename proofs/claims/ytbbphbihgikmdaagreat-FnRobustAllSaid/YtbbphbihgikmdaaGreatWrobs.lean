/- Walks of functions of the program: each returns what the plain function gives. Conditions: those that each statement names. -/
import Derived.Test.YtbbphbihgikmdaaGreatWswin
import Derived.Test.YtbbphbihgikmdaaGreatPureB
namespace Go.Proofs.YtbbphbihgikmdaaGreat
open Go
set_option linter.unusedSimpArgs false
set_option linter.unusedVariables false
theorem robS_ok {Hmd : Hp} {vmd : Value} {Hmc : Hp} {vmc : Value} (m : Mod) (k : Int) (hmd : Ints Hmd vmd m.doms) (hmc : Cons Hmc vmc m.cons) : Spec Tryz.prog 20 [.agg #[vmd, vmc], .int .i64 k] [Hmd, Hmc] (fun Hq vq => ∃ uq0 : Value, vq = .tuple #[uq0, .bool ((robB m k).2)] ∧ Ints Hq uq0 ((robB m k).1)) := by
 refine spec_of Tryz.func20 rfl rfl rfl (fun B => ?_)
 refine kc_seq (kc_region ?_)
 refine kl_box rfl rfl (fun p1 H2 f3 a4 => ?_)
 refine kl_as rfl ?_
 refine kl_as rfl ?_
 refine kl_nil (kq_code ?_)
 refine kc_seq ?_
 refine kc_seq (kc_region ?_)
 refine kl_ldS rfl (by assumption) rfl ?_
 refine kl_callP rfl rfl (svalidMod_ok m (by assumption) (by assumption)) ?_
 refine kl_not rfl ?_
 refine kl_mv rfl ?_
 refine kl_join 7 22 (.bool (!(validModB m) || !(withinB k (0 : Int) (m.doms.length : Int)))) (pc 1 rfl (pc 2 rfl (pc 4 rfl (pc 5 rfl (pc 15 rfl pn))))) (fun J9 => ?_) ?_
 ·rcases Bool.eq_false_or_eq_true (!(validModB m)) with g5 | g5
  ·skip
   refine kl_gF rfl rfl g5 ?_
   refine kl_gF rfl rfl g5 ?_
   refine kl_gF rfl rfl g5 ?_
   refine kl_gF rfl rfl g5 ?_
   refine kl_gF rfl rfl g5 ?_
   refine kl_gF rfl rfl g5 ?_
   refine kl_orT (!(withinB k (0 : Int) (m.doms.length : Int))) rfl rfl g5 ?_
   exact J9 _ (pc 22 rfl (pc 1 rfl (pc 2 rfl (pc 4 rfl (pc 5 rfl (pc 15 rfl pn))))))
  ·skip
   have g5p := g5
   try simp only [Bool.not_eq_true', Bool.not_eq_false', decide_eq_true_eq, decide_eq_false_iff_not, Bool.and_eq_true, Bool.or_eq_false_iff, withinB_iff] at g5p
   refine kl_gT rfl rfl g5 ?_
   refine kl_mv rfl ?_
   refine kl_gT rfl rfl g5 ?_
   refine kl_fd rfl (by assumption) (fun p6 a7 => ?_)
   refine kl_gT rfl rfl g5 ?_
   refine kl_ld rfl (by assumption) ?_
   refine kl_gT rfl rfl g5 ?_
   refine kl_len rfl (by assumption) (fun l8 => ?_)
   refine kl_gT rfl rfl g5 ?_
   refine kl_callP rfl rfl (inRange_ok k (0 : Int) (m.doms.length : Int)) ?_
   refine kl_gT rfl rfl g5 ?_
   refine kl_not rfl ?_
   refine kl_orF rfl rfl g5 ?_
   exact J9 _ (pc 22 rfl (pc 1 rfl (pc 2 rfl (pc 4 rfl (pc 5 rfl (pc 15 rfl pn))))))
 refine kl_nil (kq_code ?_)
 refine kc_cond rfl (fun c10 => ?_) (fun c10 => ?_)
 ·skip
  have c10r := c10
  try simp only [Bool.not_eq_true', Bool.not_eq_false', Bool.not_true, Bool.not_false, decide_eq_true_eq, decide_eq_false_iff_not, Bool.and_eq_true, Bool.or_eq_false_iff] at c10
  refine kc_seq (kc_region ?_)
  refine kl_as rfl ?_
  refine kl_as rfl ?_
  refine kl_nil (kq_code ?_)
  refine kc_ret ?_
  refine kq_ret2 rfl rfl rfl noHp (fr_no _) ⟨_, tup2 rfl (congrArg Value.bool (by rw [rob_no (by assumption)])), ?_⟩
  exact (by have e9 : (robB m k).1 = [] := (by rw [rob_no (by assumption)]); rw [e9]; exact Sl.nil)
 ·skip
  have c10r := c10
  try simp only [Bool.not_eq_true', Bool.not_eq_false', Bool.not_true, Bool.not_false, decide_eq_true_eq, decide_eq_false_iff_not, Bool.and_eq_true, Bool.or_eq_false_iff] at c10
  have hg := rob_ok c10r
  obtain ⟨hM, hk0, hkn, hrb⟩ := hg
  have hn := hM.n
  refine kc_skipQ ?_
  refine kq_code ?_
  refine kc_seq (kc_region ?_)
  refine kl_fd rfl (by assumption) (fun p11 a12 => ?_)
  refine kl_ld rfl (by assumption) ?_
  refine kl_len rfl (by assumption) (fun l13 => ?_)
  refine kl_mkL (R := BoolV) false rfl rfl (by omega) (by decide) (by exact rfl) (fun v14 H15 f16 o17 => ?_)
  refine kl_as rfl ?_
  refine kl_nil (kq_code ?_)
  refine kc_seq ?_
  refine kc_seq (kc_region ?_)
  refine kl_mv rfl ?_
  refine kl_as rfl ?_
  refine kl_nil (kq_code ?_)
  refine kc_block ?_
  refine kc_loopL (A := Nat × Int × List Bool × Hp) (fun zz => (k.toNat ≤ zz.1 ∧ zz.1 ≤ m.doms.length) ∧ (zz.2.1 = (zz.1 : Int) ∧ zz.2.2.1 = robT m.doms.length k.toNat zz.1) ∧ OwnL 4 1 zz.2.2.2 noHp BoolV v14 zz.2.2.1 ∧ Fr B zz.2.2.2) (fun zz => m.doms.length - zz.1) (fun zz => [zz.2.2.2]) (fun zz => [(7, .int .i64 zz.2.1)]) (k.toNat, k, (List.replicate m.doms.length false), H15) (pc 1 rfl (pc 2 rfl (pc 4 rfl (pc 5 rfl (pc 6 rfl pn))))) (pc 7 rfl pn) rfl ⟨⟨Nat.le_refl _, by omega⟩, ⟨by dsimp only; omega, robT_0 (by omega)⟩, o17, f16⟩ ?_
  rintro ⟨j, z, fa, H20⟩ hJ23
  obtain ⟨hk18, hi19, o21, f22⟩ : (k.toNat ≤ j ∧ j ≤ m.doms.length) ∧ (z = (j : Int) ∧ fa = robT m.doms.length k.toNat j) ∧ OwnL 4 1 H20 noHp BoolV v14 fa ∧ Fr B H20 := hJ23
  change KC _ _ (_) [H20] _ ([(7, .int .i64 z)] ++ _)
  have hz := hi19.1
  have hfl : fa.length = m.doms.length := (by rw [hi19.2]; exact robT_len (by omega) (by omega))
  refine kc_seq ?_
  refine kc_seq (kc_region ?_)
  refine kl_mv rfl ?_
  refine kl_mv rfl ?_
  refine kl_lenL rfl o21 (fun l24 => ?_)
  refine kl_lss rfl rfl ?_
  refine kl_nil (kq_code ?_)
  refine kc_if rfl (fun c25 => ?_) (fun c25 => ?_)
  ·skip
   refine kc_skipQ ?_
   refine kq_code ?_
   refine kc_seq ?_
   refine kc_block ?_
   refine kc_region ?_
   refine kl_mv rfl ?_
   refine kl_mv rfl ?_
   refine kl_ixL rfl rfl (by assumption) (by omega) (by omega) (fun p26 q27 => ?_)
   refine kl_stL true rfl rfl (by assumption) o21 (by omega) rfl rfl rfl (fun H28 o29 f30 => ?_)
   have f31 := f30 _ f22
   refine kl_chg [H28] rfl ?_
   refine kl_nil (kq_code ?_)
   refine kc_region ?_
   refine kl_mv rfl ?_
   refine kl_add rfl rfl (by omega) ?_
   refine kl_as rfl ?_
   refine kl_nil ?_
   refine kq_take [H28] ?_
   refine kq_roundL ((j + 1), (z + (1 : Int)), (fa.set z.toNat true), H28) (by omega) (⟨by omega, ⟨by dsimp only; omega, robT_step (by omega) (by omega) hi19.1 hi19.2⟩, o29, f31⟩) (pc 7 rfl pn) (pc 1 rfl (pc 2 rfl (pc 4 rfl (pc 5 rfl (pc 6 rfl pn))))) rfl (List.Sublist.refl _)
  ·skip
   refine kc_exit ?_
   refine kq_code ?_
   refine kc_seq (kc_region ?_)
   refine kl_bsI [] rfl rfl rfl (by decide) (fun v32 H33 f34 o35 => ?_)
   refine kl_as rfl ?_
   refine kl_nil (kq_code ?_)
   refine kc_seq ?_
   refine kc_seq (kc_region ?_)
   refine kl_ldS rfl (by assumption) rfl ?_
   refine kl_mv rfl ?_
   refine kl_mv rfl ?_
   refine kl_callP rfl rfl (wins_ok m.doms.length m fa ([]) hM hfl (by simp) vals_nil (by assumption) (by assumption) (OwnL.bools o21) (OwnL.ints o35)) ?_
   refine kl_not rfl ?_
   refine kl_nil (kq_code ?_)
   refine kc_cond rfl (fun c36 => ?_) (fun c36 => ?_)
   ·skip
    have c36r := c36
    try simp only [Bool.not_eq_true', Bool.not_eq_false', Bool.not_true, Bool.not_false, decide_eq_true_eq, decide_eq_false_iff_not, Bool.and_eq_true, Bool.or_eq_false_iff] at c36
    refine kc_seq (kc_region ?_)
    refine kl_as rfl ?_
    refine kl_as rfl ?_
    refine kl_nil (kq_code ?_)
    refine kc_ret ?_
    refine kq_ret2 rfl rfl rfl noHp (fr_no _) ⟨_, tup2 rfl (congrArg Value.bool (by rw [hrb, rob_none (by omega) (by rw [← robT_end hi19.2 (by omega)]; assumption)]; rfl)), ?_⟩
    exact (by have e9 : (robB m k).1 = [] := (by rw [hrb, rob_none (by omega) (by rw [← robT_end hi19.2 (by omega)]; assumption)]; rfl); rw [e9]; exact Sl.nil)
   ·skip
    have c36r := c36
    try simp only [Bool.not_eq_true', Bool.not_eq_false', Bool.not_true, Bool.not_false, decide_eq_true_eq, decide_eq_false_iff_not, Bool.and_eq_true, Bool.or_eq_false_iff] at c36
    have hfa : fa = robFa m.doms.length k.toNat := robT_end hi19.2 (by omega)
    have hcw := c36r
    have hI0 := robI_0 (m := m) (k := k.toNat) (by rw [← hfa]; exact hcw)
    refine kc_skipQ ?_
    refine kq_code ?_
    refine kc_seq ?_
    refine kc_seq (kc_region ?_)
    refine kl_as rfl ?_
    refine kl_nil (kq_code ?_)
    refine kc_block ?_
    refine kc_loopL (A := Nat × List Int × Value × Hp) (fun zz => (zz.1 ≤ k.toNat) ∧ (RobI m k.toNat zz.1 zz.2.1) ∧ OwnL 3 1 zz.2.2.2 noHp IntV zz.2.2.1 zz.2.1 ∧ Fr B zz.2.2.2) (fun zz => k.toNat - zz.1) (fun zz => [zz.2.2.2, H20]) (fun zz => [(9, .int .i64 (zz.1 : Int)), (8, zz.2.2.1)]) (0, ([]), v32, H33) (pc 1 rfl (pc 2 rfl (pc 4 rfl (pc 5 rfl (pc 6 rfl pn))))) (pc 9 rfl (pc 8 rfl pn)) rfl ⟨Nat.zero_le _, hI0, o35, f34⟩ ?_
    rintro ⟨i, x, v42, H39⟩ hJ43
    obtain ⟨hk37, hi38, o40, f41⟩ : (i ≤ k.toNat) ∧ (RobI m k.toNat i x) ∧ OwnL 3 1 H39 noHp IntV v42 x ∧ Fr B H39 := hJ43
    change KC _ _ (_) [H39, H20] _ ([(9, .int .i64 (i : Int)), (8, v42)] ++ _)
    have hI := hi38
    have hxl := hI.l
    refine kc_seq ?_
    refine kc_seq (kc_region ?_)
    refine kl_mv rfl ?_
    refine kl_mv rfl ?_
    refine kl_lss rfl rfl ?_
    refine kl_nil (kq_code ?_)
    refine kc_if rfl (fun c44 => ?_) (fun c44 => ?_)
    ·skip
     refine kc_skipQ ?_
     refine kq_code ?_
     refine kc_seq ?_
     refine kc_block ?_
     refine kc_seq (kc_region ?_)
     refine kl_fd rfl (by assumption) (fun p45 a46 => ?_)
     refine kl_ld rfl (by assumption) ?_
     refine kl_mv rfl ?_
     refine kl_inI rfl rfl (by assumption) (by omega) (fun p47 a48 => ?_)
     refine kl_ld rfl (by assumption) ?_
     refine kl_call rfl rfl (domainValues_ok (m.doms.getD i 0)) (fun v49 H50 f51 h52 => ?_)
     refine kl_as rfl ?_
     refine kl_nil (kq_code (kc_seq (kc_region ?_)))
     refine kl_mv rfl ?_
     refine kl_len rfl (by assumption) (fun l53 => ?_)
     refine kl_sub rfl rfl (by omega) ?_
     refine kl_as rfl ?_
     refine kl_nil (kq_code ?_)
     refine kc_block ?_
     refine kc_loopL (A := Int × List Int × Value × Hp) (fun zz => (-1 ≤ zz.1 ∧ zz.1 < ((valsI (m.doms.getD i 0)).length : Int) ∧ zz.2.1 = robS m k.toNat x (zz.1 + 1).toNat) ∧ OwnL 3 1 zz.2.2.2 noHp IntV zz.2.2.1 zz.2.1 ∧ Fr B zz.2.2.2) (fun zz => (zz.1 + 1).toNat) (fun zz => [zz.2.2.2, H20]) (fun zz => [(11, .int .i64 zz.1), (8, zz.2.2.1)]) ((((valsI (m.doms.getD i 0)).length : Int) - (1 : Int)), x, v42, H39) (pc 1 rfl (pc 2 rfl (pc 4 rfl (pc 5 rfl (pc 6 rfl (pc 9 rfl (pc 10 rfl (pc 43 rfl (pc 44 rfl (pc 45 rfl (pc 48 rfl (pc 49 rfl (pc 50 rfl (pc 51 rfl (pc 52 rfl (pc 53 rfl (pc 54 rfl (pc 55 rfl (pc 56 rfl pn))))))))))))))))))) (pc 11 rfl (pc 8 rfl pn)) rfl ⟨⟨by dsimp only; omega, by dsimp only; omega, (by dsimp only; rw [robS_end m k.toNat x (by rw [hxl]; omega)])⟩, o40, f41⟩ ?_
     rintro ⟨v, y, v59, H56⟩ hJ60
     obtain ⟨hi55, o57, f58⟩ : (-1 ≤ v ∧ v < ((valsI (m.doms.getD i 0)).length : Int) ∧ y = robS m k.toNat x (v + 1).toNat) ∧ OwnL 3 1 H56 noHp IntV v59 y ∧ Fr B H56 := hJ60
     change KC _ _ (_) [H56, H20] _ ([(11, .int .i64 v), (8, v59)] ++ _)
     have hyl := robS_len hxl hi55.2.2
     refine kc_seq ?_
     refine kc_seq (kc_region ?_)
     refine kl_mv rfl ?_
     refine kl_geq rfl rfl ?_
     refine kl_nil (kq_code ?_)
     refine kc_if rfl (fun c61 => ?_) (fun c61 => ?_)
     ·skip
      have hv := getD_mem (d := (0 : Int)) (by omega : v.toNat < (valsI (m.doms.getD i 0)).length)
      have hvv := valsI_mem hv
      refine kc_skipQ ?_
      refine kq_code ?_
      refine kc_seq ?_
      refine kc_block ?_
      refine kc_seq ?_
      refine kc_tree (fun i => ([12] : List Nat).contains i) [] (by kernel_rfl) ?_
      refine kt_q 0 (List.nil_sublist _) rfl (by kernel_rfl) ?_
      refine kl_ldS rfl (by assumption) rfl ?_
      refine kl_nil (kq_q ?_)
      refine kt_q 1 (List.nil_sublist _) rfl (by kernel_rfl) ?_
      refine kl_mv rfl ?_
      refine kl_nil (kq_q ?_)
      refine kt_q 2 (List.nil_sublist _) rfl (by kernel_rfl) ?_
      refine kl_mv rfl ?_
      refine kl_nil (kq_q ?_)
      refine kt_q 3 (List.nil_sublist _) rfl (by kernel_rfl) ?_
      refine kl_mv rfl ?_
      refine kl_nil (kq_q ?_)
      refine kt_q 4 (List.nil_sublist _) rfl (by kernel_rfl) ?_
      refine kl_slTakeL (i := i) rfl rfl o57 (by omega) (fun u62 o63 => ?_)
      refine kl_nil (kq_q ?_)
      refine kt_q 6 (List.nil_sublist _) rfl (by kernel_rfl) ?_
      refine kl_mv rfl ?_
      refine kl_nil (kq_q ?_)
      refine kt_q 7 (List.nil_sublist _) rfl (by kernel_rfl) ?_
      refine kl_mv rfl ?_
      refine kl_nil (kq_q ?_)
      refine kt_q 8 (List.nil_sublist _) rfl (by kernel_rfl) ?_
      refine kl_ixI rfl rfl (by assumption) (by omega) (by omega) (fun p64 a65 => ?_)
      refine kl_nil (kq_q ?_)
      refine kt_q 9 (List.nil_sublist _) rfl (by kernel_rfl) ?_
      refine kl_ld rfl (by assumption) ?_
      refine kl_nil (kq_q ?_)
      refine kt_b 5 10 rfl rfl (by kernel_rfl) ?_ ?_
      ·skip
       refine kl_callL rfl rfl (copyInts_ok (y.take i) (by simp; omega) (OwnL.ints o63)) (fun v66 H67 f68 o69 => ?_)
       refine kl_nil (kq_a (List.nil_sublist _) ?_)
       refine kt_a 10 rfl (by kernel_rfl) ?_
       refine kl_bs rfl rfl rfl (by decide) (ca rfl ca_nil) (fun v70 H71 f72 r73 s74 => ?_)
       have h75 : Ints H71 v70 [((valsI (m.doms.getD i 0)).getD v.toNat 0)] := litInts (xs := [((valsI (m.doms.getD i 0)).getD v.toNat 0)]) (by simpa using s74)
       refine kl_nil (kq_a (List.nil_sublist _) ?_)
       refine kt_a 11 rfl (by kernel_rfl) ?_
       refine kl_apL ((valsI (m.doms.getD i 0)).getD v.toNat 0) rfl rfl o69 (by assumption) rfl (oc rfl oc_nil) (by (simp; omega)) (by decide) (fun v76 H77 o78 f79 => ?_)
       have f80 := f79 B f68 (Nat.le_refl _)
       refine kl_nil (kq_a (List.nil_sublist _) ?_)
       refine kt_a 12 rfl (by kernel_rfl) ?_
       refine kl_callP rfl rfl (wins_ok (m.doms.length - (i + 1)) m fa ((y.take i) ++ [((valsI (m.doms.getD i 0)).getD v.toNat 0)]) hM hfl (by simp; omega) (by rw [hyl.2.2]; exact hI.v.snoc hvv) (by assumption) (by assumption) (OwnL.bools o21) (OwnL.ints o78)) ?_
       refine kl_nil (kq_x rfl ?_)
       refine kt_end (by kernel_rfl) ?_
       refine kq_code ?_
       refine kc_cond rfl (fun c81 => ?_) (fun c81 => ?_)
       ·skip
        have c81r := c81
        try simp only [Bool.not_eq_true', Bool.not_eq_false', Bool.not_true, Bool.not_false, decide_eq_true_eq, decide_eq_false_iff_not, Bool.and_eq_true, Bool.or_eq_false_iff] at c81
        refine kc_tree (fun i => ([9] : List Nat).contains i) [] (by kernel_rfl) ?_
        refine kt_q 0 (List.nil_sublist _) rfl (by kernel_rfl) ?_
        refine kl_mv rfl ?_
        refine kl_nil (kq_q ?_)
        refine kt_q 1 (List.nil_sublist _) rfl (by kernel_rfl) ?_
        refine kl_mv rfl ?_
        refine kl_nil (kq_q ?_)
        refine kt_q 2 (List.nil_sublist _) rfl (by kernel_rfl) ?_
        refine kl_slTakeL (i := i) rfl rfl o57 (by omega) (fun u82 o83 => ?_)
        refine kl_nil (kq_q ?_)
        refine kt_q 4 (List.nil_sublist _) rfl (by kernel_rfl) ?_
        refine kl_mv rfl ?_
        refine kl_nil (kq_q ?_)
        refine kt_q 5 (List.nil_sublist _) rfl (by kernel_rfl) ?_
        refine kl_mv rfl ?_
        refine kl_nil (kq_q ?_)
        refine kt_q 6 (List.nil_sublist _) rfl (by kernel_rfl) ?_
        refine kl_ixI rfl rfl (by assumption) (by omega) (by omega) (fun p84 a85 => ?_)
        refine kl_nil (kq_q ?_)
        refine kt_q 7 (List.nil_sublist _) rfl (by kernel_rfl) ?_
        refine kl_ld rfl (by assumption) ?_
        refine kl_nil (kq_q ?_)
        refine kt_b 3 8 rfl rfl (by kernel_rfl) ?_ ?_
        ·skip
         refine kl_callL rfl rfl (copyInts_ok (y.take i) (by simp; omega) (OwnL.ints o83)) (fun v86 H87 f88 o89 => ?_)
         refine kl_nil (kq_a (List.nil_sublist _) ?_)
         refine kt_a 8 rfl (by kernel_rfl) ?_
         refine kl_bs rfl rfl rfl (by decide) (ca rfl ca_nil) (fun v90 H91 f92 r93 s94 => ?_)
         have h95 : Ints H91 v90 [((valsI (m.doms.getD i 0)).getD v.toNat 0)] := litInts (xs := [((valsI (m.doms.getD i 0)).getD v.toNat 0)]) (by simpa using s94)
         refine kl_nil (kq_a (List.nil_sublist _) ?_)
         refine kt_a 9 rfl (by kernel_rfl) ?_
         refine kl_apL ((valsI (m.doms.getD i 0)).getD v.toNat 0) rfl rfl o89 (by assumption) rfl (oc rfl oc_nil) (by (simp; omega)) (by decide) (fun v96 H97 o98 f99 => ?_)
         have f100 := f99 B f88 (Nat.le_refl _)
         refine kl_nil (kq_x rfl ?_)
         refine kt_q 10 (List.nil_sublist _) rfl (by kernel_rfl) ?_
         refine kl_as rfl ?_
         refine kl_nil (kq_q ?_)
         refine kt_end (by kernel_rfl) ?_
         refine kq_code ?_
         refine kc_region ?_
         refine kl_mv rfl ?_
         refine kl_sub rfl rfl (by omega) ?_
         refine kl_as rfl ?_
         refine kl_nil ?_
         refine kq_take [H97, H20] ?_
         refine kq_roundL ((v - (1 : Int)), ((y.take i) ++ [((valsI (m.doms.getD i 0)).getD v.toNat 0)]), v96, H97) (by (dsimp only; omega)) (⟨⟨by dsimp only; omega, by dsimp only; omega, (by first | exact robS_stepT hfa hxl hi55.2.2 (by omega) (by omega) (by assumption) | exact robS_stepF hfa hxl hi55.2.2 (by omega) (by omega) (by assumption))⟩, o98, f100⟩) (pc 11 rfl (pc 8 rfl pn)) (pc 1 rfl (pc 2 rfl (pc 4 rfl (pc 5 rfl (pc 6 rfl (pc 9 rfl (pc 10 rfl (pc 43 rfl (pc 44 rfl (pc 45 rfl (pc 48 rfl (pc 49 rfl (pc 50 rfl (pc 51 rfl (pc 52 rfl (pc 53 rfl (pc 54 rfl (pc 55 rfl (pc 56 rfl pn))))))))))))))))))) rfl (List.Sublist.refl _)
        ·skip
         refine kl_bs rfl rfl rfl (by decide) (ca rfl ca_nil) (fun v101 H102 f103 r104 s105 => ?_)
         have h106 : Ints H102 v101 [((valsI (m.doms.getD i 0)).getD v.toNat 0)] := litInts (xs := [((valsI (m.doms.getD i 0)).getD v.toNat 0)]) (by simpa using s105)
         refine kl_nil (kq_a (List.nil_sublist _) ?_)
         refine kt_a 3 rfl (by kernel_rfl) ?_
         refine kl_callL rfl rfl (copyInts_ok (y.take i) (by simp; omega) (OwnL.ints o83)) (fun v107 H108 f109 o110 => ?_)
         refine kl_nil (kq_a (List.nil_sublist _) ?_)
         refine kt_a 9 rfl (by kernel_rfl) ?_
         refine kl_apL ((valsI (m.doms.getD i 0)).getD v.toNat 0) rfl rfl o110 (by assumption) rfl (oc rfl oc_nil) (by (simp; omega)) (by decide) (fun v111 H112 o113 f114 => ?_)
         have f115 := f114 B f109 (Nat.le_refl _)
         refine kl_nil (kq_x rfl ?_)
         refine kt_q 10 (List.nil_sublist _) rfl (by kernel_rfl) ?_
         refine kl_as rfl ?_
         refine kl_nil (kq_q ?_)
         refine kt_end (by kernel_rfl) ?_
         refine kq_code ?_
         refine kc_region ?_
         refine kl_mv rfl ?_
         refine kl_sub rfl rfl (by omega) ?_
         refine kl_as rfl ?_
         refine kl_nil ?_
         refine kq_take [H112, H20] ?_
         refine kq_roundL ((v - (1 : Int)), ((y.take i) ++ [((valsI (m.doms.getD i 0)).getD v.toNat 0)]), v111, H112) (by (dsimp only; omega)) (⟨⟨by dsimp only; omega, by dsimp only; omega, (by first | exact robS_stepT hfa hxl hi55.2.2 (by omega) (by omega) (by assumption) | exact robS_stepF hfa hxl hi55.2.2 (by omega) (by omega) (by assumption))⟩, o113, f115⟩) (pc 11 rfl (pc 8 rfl pn)) (pc 1 rfl (pc 2 rfl (pc 4 rfl (pc 5 rfl (pc 6 rfl (pc 9 rfl (pc 10 rfl (pc 43 rfl (pc 44 rfl (pc 45 rfl (pc 48 rfl (pc 49 rfl (pc 50 rfl (pc 51 rfl (pc 52 rfl (pc 53 rfl (pc 54 rfl (pc 55 rfl (pc 56 rfl pn))))))))))))))))))) rfl (List.Sublist.refl _)
       ·skip
        have c81r := c81
        try simp only [Bool.not_eq_true', Bool.not_eq_false', Bool.not_true, Bool.not_false, decide_eq_true_eq, decide_eq_false_iff_not, Bool.and_eq_true, Bool.or_eq_false_iff] at c81
        refine kc_skipQ ?_
        refine kq_code ?_
        refine kc_region ?_
        refine kl_mv rfl ?_
        refine kl_sub rfl rfl (by omega) ?_
        refine kl_as rfl ?_
        refine kl_nil ?_
        refine kq_take [H56, H20] ?_
        refine kq_roundL ((v - (1 : Int)), y, v59, H56) (by (dsimp only; omega)) (⟨⟨by dsimp only; omega, by dsimp only; omega, (by first | exact robS_stepT hfa hxl hi55.2.2 (by omega) (by omega) (by assumption) | exact robS_stepF hfa hxl hi55.2.2 (by omega) (by omega) (by assumption))⟩, o57, f58⟩) (pc 11 rfl (pc 8 rfl pn)) (pc 1 rfl (pc 2 rfl (pc 4 rfl (pc 5 rfl (pc 6 rfl (pc 9 rfl (pc 10 rfl (pc 43 rfl (pc 44 rfl (pc 45 rfl (pc 48 rfl (pc 49 rfl (pc 50 rfl (pc 51 rfl (pc 52 rfl (pc 53 rfl (pc 54 rfl (pc 55 rfl (pc 56 rfl pn))))))))))))))))))) rfl (List.Sublist.refl _)
      ·skip
       refine kl_bs rfl rfl rfl (by decide) (ca rfl ca_nil) (fun v116 H117 f118 r119 s120 => ?_)
       have h121 : Ints H117 v116 [((valsI (m.doms.getD i 0)).getD v.toNat 0)] := litInts (xs := [((valsI (m.doms.getD i 0)).getD v.toNat 0)]) (by simpa using s120)
       refine kl_nil (kq_a (List.nil_sublist _) ?_)
       refine kt_a 5 rfl (by kernel_rfl) ?_
       refine kl_callL rfl rfl (copyInts_ok (y.take i) (by simp; omega) (OwnL.ints o63)) (fun v122 H123 f124 o125 => ?_)
       refine kl_nil (kq_a (List.nil_sublist _) ?_)
       refine kt_a 11 rfl (by kernel_rfl) ?_
       refine kl_apL ((valsI (m.doms.getD i 0)).getD v.toNat 0) rfl rfl o125 (by assumption) rfl (oc rfl oc_nil) (by (simp; omega)) (by decide) (fun v126 H127 o128 f129 => ?_)
       have f130 := f129 B f124 (Nat.le_refl _)
       refine kl_nil (kq_a (List.nil_sublist _) ?_)
       refine kt_a 12 rfl (by kernel_rfl) ?_
       refine kl_callP rfl rfl (wins_ok (m.doms.length - (i + 1)) m fa ((y.take i) ++ [((valsI (m.doms.getD i 0)).getD v.toNat 0)]) hM hfl (by simp; omega) (by rw [hyl.2.2]; exact hI.v.snoc hvv) (by assumption) (by assumption) (OwnL.bools o21) (OwnL.ints o128)) ?_
       refine kl_nil (kq_x rfl ?_)
       refine kt_end (by kernel_rfl) ?_
       refine kq_code ?_
       refine kc_cond rfl (fun c131 => ?_) (fun c131 => ?_)
       ·skip
        have c131r := c131
        try simp only [Bool.not_eq_true', Bool.not_eq_false', Bool.not_true, Bool.not_false, decide_eq_true_eq, decide_eq_false_iff_not, Bool.and_eq_true, Bool.or_eq_false_iff] at c131
        refine kc_tree (fun i => ([9] : List Nat).contains i) [] (by kernel_rfl) ?_
        refine kt_q 0 (List.nil_sublist _) rfl (by kernel_rfl) ?_
        refine kl_mv rfl ?_
        refine kl_nil (kq_q ?_)
        refine kt_q 1 (List.nil_sublist _) rfl (by kernel_rfl) ?_
        refine kl_mv rfl ?_
        refine kl_nil (kq_q ?_)
        refine kt_q 2 (List.nil_sublist _) rfl (by kernel_rfl) ?_
        refine kl_slTakeL (i := i) rfl rfl o57 (by omega) (fun u132 o133 => ?_)
        refine kl_nil (kq_q ?_)
        refine kt_q 4 (List.nil_sublist _) rfl (by kernel_rfl) ?_
        refine kl_mv rfl ?_
        refine kl_nil (kq_q ?_)
        refine kt_q 5 (List.nil_sublist _) rfl (by kernel_rfl) ?_
        refine kl_mv rfl ?_
        refine kl_nil (kq_q ?_)
        refine kt_q 6 (List.nil_sublist _) rfl (by kernel_rfl) ?_
        refine kl_ixI rfl rfl (by assumption) (by omega) (by omega) (fun p134 a135 => ?_)
        refine kl_nil (kq_q ?_)
        refine kt_q 7 (List.nil_sublist _) rfl (by kernel_rfl) ?_
        refine kl_ld rfl (by assumption) ?_
        refine kl_nil (kq_q ?_)
        refine kt_b 3 8 rfl rfl (by kernel_rfl) ?_ ?_
        ·skip
         refine kl_callL rfl rfl (copyInts_ok (y.take i) (by simp; omega) (OwnL.ints o133)) (fun v136 H137 f138 o139 => ?_)
         refine kl_nil (kq_a (List.nil_sublist _) ?_)
         refine kt_a 8 rfl (by kernel_rfl) ?_
         refine kl_bs rfl rfl rfl (by decide) (ca rfl ca_nil) (fun v140 H141 f142 r143 s144 => ?_)
         have h145 : Ints H141 v140 [((valsI (m.doms.getD i 0)).getD v.toNat 0)] := litInts (xs := [((valsI (m.doms.getD i 0)).getD v.toNat 0)]) (by simpa using s144)
         refine kl_nil (kq_a (List.nil_sublist _) ?_)
         refine kt_a 9 rfl (by kernel_rfl) ?_
         refine kl_apL ((valsI (m.doms.getD i 0)).getD v.toNat 0) rfl rfl o139 (by assumption) rfl (oc rfl oc_nil) (by (simp; omega)) (by decide) (fun v146 H147 o148 f149 => ?_)
         have f150 := f149 B f138 (Nat.le_refl _)
         refine kl_nil (kq_x rfl ?_)
         refine kt_q 10 (List.nil_sublist _) rfl (by kernel_rfl) ?_
         refine kl_as rfl ?_
         refine kl_nil (kq_q ?_)
         refine kt_end (by kernel_rfl) ?_
         refine kq_code ?_
         refine kc_region ?_
         refine kl_mv rfl ?_
         refine kl_sub rfl rfl (by omega) ?_
         refine kl_as rfl ?_
         refine kl_nil ?_
         refine kq_take [H147, H20] ?_
         refine kq_roundL ((v - (1 : Int)), ((y.take i) ++ [((valsI (m.doms.getD i 0)).getD v.toNat 0)]), v146, H147) (by (dsimp only; omega)) (⟨⟨by dsimp only; omega, by dsimp only; omega, (by first | exact robS_stepT hfa hxl hi55.2.2 (by omega) (by omega) (by assumption) | exact robS_stepF hfa hxl hi55.2.2 (by omega) (by omega) (by assumption))⟩, o148, f150⟩) (pc 11 rfl (pc 8 rfl pn)) (pc 1 rfl (pc 2 rfl (pc 4 rfl (pc 5 rfl (pc 6 rfl (pc 9 rfl (pc 10 rfl (pc 43 rfl (pc 44 rfl (pc 45 rfl (pc 48 rfl (pc 49 rfl (pc 50 rfl (pc 51 rfl (pc 52 rfl (pc 53 rfl (pc 54 rfl (pc 55 rfl (pc 56 rfl pn))))))))))))))))))) rfl (List.Sublist.refl _)
        ·skip
         refine kl_bs rfl rfl rfl (by decide) (ca rfl ca_nil) (fun v151 H152 f153 r154 s155 => ?_)
         have h156 : Ints H152 v151 [((valsI (m.doms.getD i 0)).getD v.toNat 0)] := litInts (xs := [((valsI (m.doms.getD i 0)).getD v.toNat 0)]) (by simpa using s155)
         refine kl_nil (kq_a (List.nil_sublist _) ?_)
         refine kt_a 3 rfl (by kernel_rfl) ?_
         refine kl_callL rfl rfl (copyInts_ok (y.take i) (by simp; omega) (OwnL.ints o133)) (fun v157 H158 f159 o160 => ?_)
         refine kl_nil (kq_a (List.nil_sublist _) ?_)
         refine kt_a 9 rfl (by kernel_rfl) ?_
         refine kl_apL ((valsI (m.doms.getD i 0)).getD v.toNat 0) rfl rfl o160 (by assumption) rfl (oc rfl oc_nil) (by (simp; omega)) (by decide) (fun v161 H162 o163 f164 => ?_)
         have f165 := f164 B f159 (Nat.le_refl _)
         refine kl_nil (kq_x rfl ?_)
         refine kt_q 10 (List.nil_sublist _) rfl (by kernel_rfl) ?_
         refine kl_as rfl ?_
         refine kl_nil (kq_q ?_)
         refine kt_end (by kernel_rfl) ?_
         refine kq_code ?_
         refine kc_region ?_
         refine kl_mv rfl ?_
         refine kl_sub rfl rfl (by omega) ?_
         refine kl_as rfl ?_
         refine kl_nil ?_
         refine kq_take [H162, H20] ?_
         refine kq_roundL ((v - (1 : Int)), ((y.take i) ++ [((valsI (m.doms.getD i 0)).getD v.toNat 0)]), v161, H162) (by (dsimp only; omega)) (⟨⟨by dsimp only; omega, by dsimp only; omega, (by first | exact robS_stepT hfa hxl hi55.2.2 (by omega) (by omega) (by assumption) | exact robS_stepF hfa hxl hi55.2.2 (by omega) (by omega) (by assumption))⟩, o163, f165⟩) (pc 11 rfl (pc 8 rfl pn)) (pc 1 rfl (pc 2 rfl (pc 4 rfl (pc 5 rfl (pc 6 rfl (pc 9 rfl (pc 10 rfl (pc 43 rfl (pc 44 rfl (pc 45 rfl (pc 48 rfl (pc 49 rfl (pc 50 rfl (pc 51 rfl (pc 52 rfl (pc 53 rfl (pc 54 rfl (pc 55 rfl (pc 56 rfl pn))))))))))))))))))) rfl (List.Sublist.refl _)
       ·skip
        have c131r := c131
        try simp only [Bool.not_eq_true', Bool.not_eq_false', Bool.not_true, Bool.not_false, decide_eq_true_eq, decide_eq_false_iff_not, Bool.and_eq_true, Bool.or_eq_false_iff] at c131
        refine kc_skipQ ?_
        refine kq_code ?_
        refine kc_region ?_
        refine kl_mv rfl ?_
        refine kl_sub rfl rfl (by omega) ?_
        refine kl_as rfl ?_
        refine kl_nil ?_
        refine kq_take [H56, H20] ?_
        refine kq_roundL ((v - (1 : Int)), y, v59, H56) (by (dsimp only; omega)) (⟨⟨by dsimp only; omega, by dsimp only; omega, (by first | exact robS_stepT hfa hxl hi55.2.2 (by omega) (by omega) (by assumption) | exact robS_stepF hfa hxl hi55.2.2 (by omega) (by omega) (by assumption))⟩, o57, f58⟩) (pc 11 rfl (pc 8 rfl pn)) (pc 1 rfl (pc 2 rfl (pc 4 rfl (pc 5 rfl (pc 6 rfl (pc 9 rfl (pc 10 rfl (pc 43 rfl (pc 44 rfl (pc 45 rfl (pc 48 rfl (pc 49 rfl (pc 50 rfl (pc 51 rfl (pc 52 rfl (pc 53 rfl (pc 54 rfl (pc 55 rfl (pc 56 rfl pn))))))))))))))))))) rfl (List.Sublist.refl _)
     ·skip
      refine kc_exit ?_
      refine kq_code ?_
      refine kc_region ?_
      refine kl_mv rfl ?_
      refine kl_inc rfl rfl (by omega) ?_
      refine kl_as rfl ?_
      refine kl_nil ?_
      refine kq_take [H56, H20] ?_
      refine kq_roundL ((i + 1), y, v59, H56) (by omega) (⟨by omega, (by have h9 := robI_step (by omega) (by omega) hI; rw [show y = robS m k.toNat x 0 from (by rw [hi55.2.2]; congr 1; omega)]; exact h9), o57, f58⟩) (pc 9 rfl (pc 8 rfl pn)) (pc 1 rfl (pc 2 rfl (pc 4 rfl (pc 5 rfl (pc 6 rfl pn))))) rfl (List.Sublist.refl _)
    ·skip
     refine kc_exit ?_
     refine kq_code ?_
     refine kc_seq (kc_region ?_)
     refine kl_mv rfl ?_
     refine kl_as rfl ?_
     refine kl_as rfl ?_
     refine kl_nil (kq_code ?_)
     refine kc_ret ?_
     refine kq_ret2 rfl rfl rfl H39 f41 ⟨_, tup2 rfl (congrArg Value.bool (by rw [hrb, robI_end (by omega) ((show i = k.toNat by omega) ▸ hi38)]; rfl)), ?_⟩
     exact (by have e9 : (robB m k).1 = x := (by rw [hrb, robI_end (by omega) ((show i = k.toNat by omega) ▸ hi38)]; rfl); rw [e9]; exact OwnL.ints o40)
end Go.Proofs.YtbbphbihgikmdaaGreat
