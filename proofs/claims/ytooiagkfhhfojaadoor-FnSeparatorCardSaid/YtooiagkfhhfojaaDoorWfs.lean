/- Walks of functions of the program: each returns what the plain function gives. Conditions: those that each statement names. -/
import Derived.Test.YtooiagkfhhfojaaDoorWdsp
import Derived.Test.YtooiagkfhhfojaaDoorWfl
import Derived.Test.YtooiagkfhhfojaaDoorWcomp
import Derived.Test.YtooiagkfhhfojaaDoorWreach
import Derived.Test.YtooiagkfhhfojaaDoorWnb
namespace Go.Proofs.YtooiagkfhhfojaaDoor
open Go
set_option linter.unusedSimpArgs false
set_option linter.unusedVariables false
theorem lawFnSep_ok {Hcode : Hp} {vcode : Value} {Ht : Hp} (code : List Int) (hcode : Bytes Hcode vcode code) (htab : At Ht (.pointer (some ⟨1, 0, none⟩)) tabV) : SpecP Tryd.prog 4 [vcode] [Hcode, Ht] (.bool true) := by
  refine spec_of Tryd.func4 rfl rfl rfl (fun B => ?_)
  refine kc_seq ?_
  refine kc_region ?_
  refine kl_as rfl ?_
  refine kl_nil ?_
  refine kq_code ?_
  refine kc_seq ?_
  refine kc_seq ?_
  refine kc_region ?_
  refine kl_mv rfl ?_
  refine kl_len rfl (by assumption) (fun l1 => ?_)
  refine kl_gtr rfl rfl ?_
  refine kl_nil ?_
  refine kq_code ?_
  refine kc_if rfl (fun c2 => ?_) (fun c2 => ?_)
  · skip
    refine kc_seq ?_
    refine kc_region ?_
    refine kl_as rfl ?_
    refine kl_nil ?_
    refine kq_code ?_
    refine kc_ret ?_
    refine kq_retP rfl rfl (congrArg Value.bool ?_)
    first | rfl | (rw [sep_eq]; simp; done) | exact sep_fin _ _ _ _
  · skip
    refine kc_skipQ ?_
    refine kq_code ?_
    refine kc_seq ?_
    refine kc_region ?_
    refine kl_mv rfl ?_
    refine kl_call rfl rfl (drawSep_ok code hcode) (fun v3 H4 f5 h6 => ?_)
    obtain ⟨z9, z14, z17, z18, u10, u11, u15, rfl, h12, h13, h16, h8⟩ := h6
    have hd1 := h8.1.d1
    have hd4 := h8.1.d
    refine kl_mv rfl ?_
    refine kl_xt rfl rfl ?_
    refine kl_xt rfl rfl ?_
    refine kl_xt rfl rfl ?_
    refine kl_xt rfl rfl ?_
    refine kl_alloc (cs := [.slice none 0 0, .slice none 0 0]) rfl (fun b19 hb20 => ?_)
    refine kl_stW (us := [u10, u11]) rfl rfl rfl rfl (oc (Sl.oneCell (by assumption)) (oc (Sl.oneCell (by assumption)) oc_nil)) rfl ?_
    refine kl_chg [sing b19 (.cells [u10, u11].toArray 26 (0, 0))] rfl ?_
    refine kl_as rfl ?_
    refine kl_as rfl ?_
    refine kl_as rfl ?_
    refine kl_nil ?_
    refine kq_code ?_
    refine kc_seq ?_
    refine kc_region ?_
    refine kl_ldW rfl rfl ?_
    refine kl_mv rfl ?_
    refine kl_mv rfl ?_
    refine kl_mv rfl ?_
    refine kl_callP rfl rfl (isep_ok z9 z14 z17 z18 (by assumption) (by assumption) (by assumption)) ?_
    refine kl_as rfl ?_
    refine kl_nil ?_
    refine kq_code ?_
    refine kc_seq ?_
    refine kc_seq ?_
    refine kc_region ?_
    refine kl_mv rfl ?_
    refine kl_ldW rfl rfl ?_
    refine kl_mv rfl ?_
    refine kl_mv rfl ?_
    refine kl_mv rfl ?_
    refine kl_callP rfl rfl (ssep_ok z9 z14 z17 z18 (by assumption) (by assumption) (by assumption)) ?_
    refine kl_bne rfl rfl ?_
    refine kl_mv rfl ?_
    refine kl_join 4 35 (.bool (((sepI z9 z14 z17 z18) != (sepS z9 z14 z17 z18)) || !(validModB z9))) (pc 2 rfl (pc 3 rfl (pc 4 rfl (pc 5 rfl (pc 6 rfl (pc 7 rfl (pc 31 rfl pn))))))) (fun J22 => ?_) ?_
    · rcases Bool.eq_false_or_eq_true ((sepI z9 z14 z17 z18) != (sepS z9 z14 z17 z18)) with g21 | g21
      · skip
        refine kl_gF rfl rfl g21 ?_
        refine kl_gF rfl rfl g21 ?_
        refine kl_gF rfl rfl g21 ?_
        refine kl_orT (!(validModB z9)) rfl rfl g21 ?_
        exact J22 _ (pc 35 rfl (pc 2 rfl (pc 3 rfl (pc 4 rfl (pc 5 rfl (pc 6 rfl (pc 7 rfl (pc 31 rfl pn))))))))
      · skip
        have g21p := g21
        try simp only [Bool.not_eq_true', Bool.not_eq_false', decide_eq_true_eq, decide_eq_false_iff_not, Bool.and_eq_true, Bool.or_eq_false_iff, withinB_iff] at g21p
        refine kl_gT rfl rfl g21 ?_
        refine kl_ldW rfl rfl ?_
        refine kl_gT rfl rfl g21 ?_
        refine kl_callP rfl rfl (validMod_ok z9 (by assumption) (by assumption)) ?_
        refine kl_gT rfl rfl g21 ?_
        refine kl_not rfl ?_
        refine kl_orF rfl rfl g21 ?_
        exact J22 _ (pc 35 rfl (pc 2 rfl (pc 3 rfl (pc 4 rfl (pc 5 rfl (pc 6 rfl (pc 7 rfl (pc 31 rfl pn))))))))
    refine kl_mv rfl ?_
    refine kl_join 3 39 (.bool ((((sepI z9 z14 z17 z18) != (sepS z9 z14 z17 z18)) || !(validModB z9)) || decide (z17 < (0 : Int)))) (pc 2 rfl (pc 3 rfl (pc 4 rfl (pc 5 rfl (pc 6 rfl (pc 7 rfl (pc 36 rfl pn))))))) (fun J24 => ?_) ?_
    · rcases Bool.eq_false_or_eq_true (((sepI z9 z14 z17 z18) != (sepS z9 z14 z17 z18)) || !(validModB z9)) with g23 | g23
      · skip
        refine kl_gF rfl rfl g23 ?_
        refine kl_gF rfl rfl g23 ?_
        refine kl_orT (decide (z17 < (0 : Int))) rfl rfl g23 ?_
        exact J24 _ (pc 39 rfl (pc 2 rfl (pc 3 rfl (pc 4 rfl (pc 5 rfl (pc 6 rfl (pc 7 rfl (pc 36 rfl pn))))))))
      · skip
        have g23p := g23
        try simp only [Bool.not_eq_true', Bool.not_eq_false', decide_eq_true_eq, decide_eq_false_iff_not, Bool.and_eq_true, Bool.or_eq_false_iff, withinB_iff] at g23p
        refine kl_gT rfl rfl g23 ?_
        refine kl_mv rfl ?_
        refine kl_gT rfl rfl g23 ?_
        refine kl_lss rfl rfl ?_
        refine kl_orF rfl rfl g23 ?_
        exact J24 _ (pc 39 rfl (pc 2 rfl (pc 3 rfl (pc 4 rfl (pc 5 rfl (pc 6 rfl (pc 7 rfl (pc 36 rfl pn))))))))
    refine kl_mv rfl ?_
    refine kl_join 3 43 (.bool (((((sepI z9 z14 z17 z18) != (sepS z9 z14 z17 z18)) || !(validModB z9)) || decide (z17 < (0 : Int))) || decide (z18 < (0 : Int)))) (pc 2 rfl (pc 3 rfl (pc 4 rfl (pc 5 rfl (pc 6 rfl (pc 7 rfl (pc 40 rfl pn))))))) (fun J26 => ?_) ?_
    · rcases Bool.eq_false_or_eq_true ((((sepI z9 z14 z17 z18) != (sepS z9 z14 z17 z18)) || !(validModB z9)) || decide (z17 < (0 : Int))) with g25 | g25
      · skip
        refine kl_gF rfl rfl g25 ?_
        refine kl_gF rfl rfl g25 ?_
        refine kl_orT (decide (z18 < (0 : Int))) rfl rfl g25 ?_
        exact J26 _ (pc 43 rfl (pc 2 rfl (pc 3 rfl (pc 4 rfl (pc 5 rfl (pc 6 rfl (pc 7 rfl (pc 40 rfl pn))))))))
      · skip
        have g25p := g25
        try simp only [Bool.not_eq_true', Bool.not_eq_false', decide_eq_true_eq, decide_eq_false_iff_not, Bool.and_eq_true, Bool.or_eq_false_iff, withinB_iff] at g25p
        refine kl_gT rfl rfl g25 ?_
        refine kl_mv rfl ?_
        refine kl_gT rfl rfl g25 ?_
        refine kl_lss rfl rfl ?_
        refine kl_orF rfl rfl g25 ?_
        exact J26 _ (pc 43 rfl (pc 2 rfl (pc 3 rfl (pc 4 rfl (pc 5 rfl (pc 6 rfl (pc 7 rfl (pc 40 rfl pn))))))))
    refine kl_mv rfl ?_
    refine kl_join 6 50 (.bool ((((((sepI z9 z14 z17 z18) != (sepS z9 z14 z17 z18)) || !(validModB z9)) || decide (z17 < (0 : Int))) || decide (z18 < (0 : Int))) || decide ((z9.doms.length : Int) ≤ z17))) (pc 2 rfl (pc 3 rfl (pc 4 rfl (pc 5 rfl (pc 6 rfl (pc 7 rfl (pc 44 rfl pn))))))) (fun J29 => ?_) ?_
    · rcases Bool.eq_false_or_eq_true (((((sepI z9 z14 z17 z18) != (sepS z9 z14 z17 z18)) || !(validModB z9)) || decide (z17 < (0 : Int))) || decide (z18 < (0 : Int))) with g27 | g27
      · skip
        refine kl_gF rfl rfl g27 ?_
        refine kl_gF rfl rfl g27 ?_
        refine kl_gF rfl rfl g27 ?_
        refine kl_gF rfl rfl g27 ?_
        refine kl_gF rfl rfl g27 ?_
        refine kl_orT (decide ((z9.doms.length : Int) ≤ z17)) rfl rfl g27 ?_
        exact J29 _ (pc 50 rfl (pc 2 rfl (pc 3 rfl (pc 4 rfl (pc 5 rfl (pc 6 rfl (pc 7 rfl (pc 44 rfl pn))))))))
      · skip
        have g27p := g27
        try simp only [Bool.not_eq_true', Bool.not_eq_false', decide_eq_true_eq, decide_eq_false_iff_not, Bool.and_eq_true, Bool.or_eq_false_iff, withinB_iff] at g27p
        refine kl_gT rfl rfl g27 ?_
        refine kl_mv rfl ?_
        refine kl_gT rfl rfl g27 ?_
        refine kl_fdV rfl ?_
        refine kl_gT rfl rfl g27 ?_
        refine kl_ldB rfl rfl ?_
        refine kl_gT rfl rfl g27 ?_
        refine kl_len rfl (by assumption) (fun l28 => ?_)
        refine kl_gT rfl rfl g27 ?_
        refine kl_geq rfl rfl ?_
        refine kl_orF rfl rfl g27 ?_
        exact J29 _ (pc 50 rfl (pc 2 rfl (pc 3 rfl (pc 4 rfl (pc 5 rfl (pc 6 rfl (pc 7 rfl (pc 44 rfl pn))))))))
    refine kl_mv rfl ?_
    refine kl_join 6 57 (.bool (((((((sepI z9 z14 z17 z18) != (sepS z9 z14 z17 z18)) || !(validModB z9)) || decide (z17 < (0 : Int))) || decide (z18 < (0 : Int))) || decide ((z9.doms.length : Int) ≤ z17)) || decide ((z9.doms.length : Int) ≤ z18))) (pc 2 rfl (pc 3 rfl (pc 4 rfl (pc 5 rfl (pc 6 rfl (pc 7 rfl (pc 51 rfl pn))))))) (fun J32 => ?_) ?_
    · rcases Bool.eq_false_or_eq_true ((((((sepI z9 z14 z17 z18) != (sepS z9 z14 z17 z18)) || !(validModB z9)) || decide (z17 < (0 : Int))) || decide (z18 < (0 : Int))) || decide ((z9.doms.length : Int) ≤ z17)) with g30 | g30
      · skip
        refine kl_gF rfl rfl g30 ?_
        refine kl_gF rfl rfl g30 ?_
        refine kl_gF rfl rfl g30 ?_
        refine kl_gF rfl rfl g30 ?_
        refine kl_gF rfl rfl g30 ?_
        refine kl_orT (decide ((z9.doms.length : Int) ≤ z18)) rfl rfl g30 ?_
        exact J32 _ (pc 57 rfl (pc 2 rfl (pc 3 rfl (pc 4 rfl (pc 5 rfl (pc 6 rfl (pc 7 rfl (pc 51 rfl pn))))))))
      · skip
        have g30p := g30
        try simp only [Bool.not_eq_true', Bool.not_eq_false', decide_eq_true_eq, decide_eq_false_iff_not, Bool.and_eq_true, Bool.or_eq_false_iff, withinB_iff] at g30p
        refine kl_gT rfl rfl g30 ?_
        refine kl_mv rfl ?_
        refine kl_gT rfl rfl g30 ?_
        refine kl_fdV rfl ?_
        refine kl_gT rfl rfl g30 ?_
        refine kl_ldB rfl rfl ?_
        refine kl_gT rfl rfl g30 ?_
        refine kl_len rfl (by assumption) (fun l31 => ?_)
        refine kl_gT rfl rfl g30 ?_
        refine kl_geq rfl rfl ?_
        refine kl_orF rfl rfl g30 ?_
        exact J32 _ (pc 57 rfl (pc 2 rfl (pc 3 rfl (pc 4 rfl (pc 5 rfl (pc 6 rfl (pc 7 rfl (pc 51 rfl pn))))))))
    refine kl_nil ?_
    refine kq_code ?_
    refine kc_cond rfl (fun c33 => ?_) (fun c33 => ?_)
    · skip
      have c33r := c33
      try simp only [Bool.not_eq_true', Bool.not_eq_false', Bool.not_true, Bool.not_false, decide_eq_true_eq, decide_eq_false_iff_not, Bool.and_eq_true, Bool.or_eq_false_iff] at c33
      refine kc_seq ?_
      refine kc_region ?_
      refine kl_mv rfl ?_
      refine kl_ldW rfl rfl ?_
      refine kl_mv rfl ?_
      refine kl_mv rfl ?_
      refine kl_mv rfl ?_
      refine kl_callP rfl rfl (ssep_ok z9 z14 z17 z18 (by assumption) (by assumption) (by assumption)) ?_
      refine kl_beq rfl rfl ?_
      refine kl_as rfl ?_
      refine kl_nil ?_
      refine kq_code ?_
      refine kc_ret ?_
      refine kq_retP rfl rfl (congrArg Value.bool ?_)
      first | rfl | (rw [sep_eq]; simp; done) | exact sep_fin _ _ _ _
    · skip
      have c33r := c33
      try simp only [Bool.not_eq_true', Bool.not_eq_false', Bool.not_true, Bool.not_false, decide_eq_true_eq, decide_eq_false_iff_not, Bool.and_eq_true, Bool.or_eq_false_iff] at c33
      have hg := grd6 c33r
      have hlen := compI_len hg.1
      refine kc_skipQ ?_
      refine kq_code ?_
      refine kc_seq ?_
      refine kc_region ?_
      refine kl_ldW rfl rfl ?_
      refine kl_call rfl rfl (components_ok z9 (by assumption) (by assumption) htab) (fun v34 H35 f36 h37 => ?_)
      refine kl_as rfl ?_
      refine kl_nil ?_
      refine kq_code ?_
      refine kc_seq ?_
      refine kc_seq ?_
      refine kc_tree (fun i => ([] : List Nat).contains i) [sing b19 (.cells [u10, u11].toArray 26 (0, 0))] (by kernel_rfl) ?_
      refine kt_q 0 (.cons_cons _ (List.nil_sublist _)) rfl (by kernel_rfl) ?_
      refine kl_ldS rfl (at_box (T := 26) (cs := [u10, u11]) (off := 0) (fz := (0, 0))) rfl ?_
      refine kl_nil (kq_q ?_)
      refine kt_q 2 (.cons_cons _ (List.nil_sublist _)) rfl (by kernel_rfl) ?_
      refine kl_mv rfl ?_
      refine kl_nil (kq_q ?_)
      refine kt_q 3 (.cons_cons _ (List.nil_sublist _)) rfl (by kernel_rfl) ?_
      refine kl_mv rfl ?_
      refine kl_nil (kq_q ?_)
      refine kt_q 5 (.cons_cons _ (List.nil_sublist _)) rfl (by kernel_rfl) ?_
      refine kl_mv rfl ?_
      refine kl_nil (kq_q ?_)
      refine kt_q 6 (.cons_cons _ (List.nil_sublist _)) rfl (by kernel_rfl) ?_
      refine kl_mv rfl ?_
      refine kl_nil (kq_q ?_)
      refine kt_q 7 (.cons_cons _ (List.nil_sublist _)) rfl (by kernel_rfl) ?_
      refine kl_ixI rfl rfl (by assumption) (by omega) (by omega) (fun p38 a39 => ?_)
      refine kl_nil (kq_q ?_)
      refine kt_q 8 (.cons_cons _ (List.nil_sublist _)) rfl (by kernel_rfl) ?_
      refine kl_ld rfl (by assumption) ?_
      refine kl_nil (kq_q ?_)
      refine kt_q 9 (.cons_cons _ (List.nil_sublist _)) rfl (by kernel_rfl) ?_
      refine kl_mv rfl ?_
      refine kl_nil (kq_q ?_)
      refine kt_q 10 (.cons_cons _ (List.nil_sublist _)) rfl (by kernel_rfl) ?_
      refine kl_mv rfl ?_
      refine kl_nil (kq_q ?_)
      refine kt_q 11 (.cons_cons _ (List.nil_sublist _)) rfl (by kernel_rfl) ?_
      refine kl_ixI rfl rfl (by assumption) (by omega) (by omega) (fun p40 a41 => ?_)
      refine kl_nil (kq_q ?_)
      refine kt_q 12 (.cons_cons _ (List.nil_sublist _)) rfl (by kernel_rfl) ?_
      refine kl_ld rfl (by assumption) ?_
      refine kl_nil (kq_q ?_)
      refine kt_q 13 (.cons_cons _ (List.nil_sublist _)) rfl (by kernel_rfl) ?_
      refine kl_neq rfl rfl ?_
      refine kl_nil (kq_q ?_)
      refine kt_a 1 rfl (by kernel_rfl) ?_
      refine kl_bsI [] rfl rfl rfl (by decide) (fun v42 H43 f44 o45 => ?_)
      refine kl_nil (kq_a (.cons _ (.cons_cons _ (List.nil_sublist _))) ?_)
      refine kt_a 4 rfl (by kernel_rfl) ?_
      refine kl_callP rfl rfl (isep_ok z9 ([]) z17 z18 (by assumption) (by assumption) (OwnL.ints o45)) ?_
      refine kl_nil (kq_a (.cons _ (.cons_cons _ (List.nil_sublist _))) ?_)
      refine kt_q 14 (.cons _ (.cons_cons _ (List.nil_sublist _))) rfl (by kernel_rfl) ?_
      refine kl_bne rfl rfl ?_
      refine kl_nil (kq_q ?_)
      refine kt_end (by kernel_rfl) ?_
      refine kq_code ?_
      refine kc_cond rfl (fun c46 => ?_) (fun c46 => ?_)
      · skip
        have c46r := c46
        try simp only [Bool.not_eq_true', Bool.not_eq_false', Bool.not_true, Bool.not_false, decide_eq_true_eq, decide_eq_false_iff_not, Bool.and_eq_true, Bool.or_eq_false_iff] at c46
        exfalso
        rw [sep_comp hg.1 hg.2.1 hg.2.2] at c46r
        cases c46r
      · skip
        have c46r := c46
        try simp only [Bool.not_eq_true', Bool.not_eq_false', Bool.not_true, Bool.not_false, decide_eq_true_eq, decide_eq_false_iff_not, Bool.and_eq_true, Bool.or_eq_false_iff] at c46
        refine kc_skipQ ?_
        refine kq_code ?_
        refine kc_seq ?_
        refine kc_region ?_
        refine kl_mv rfl ?_
        refine kl_ldW rfl rfl ?_
        refine kl_mv rfl ?_
        refine kl_mv rfl ?_
        refine kl_mv rfl ?_
        refine kl_callP rfl rfl (isep_ok z9 z14 z18 z17 (by assumption) (by assumption) (by assumption)) ?_
        refine kl_beq rfl rfl ?_
        refine kl_mv rfl ?_
        refine kl_join 16 105 (.bool (((sepI z9 z14 z17 z18) == (sepI z9 z14 z18 z17)) && (!(sepI z9 z14 z17 z18) || (decide (z17 ≠ z18) && !((nbI z9 z17).contains z18))))) (pc 2 rfl (pc 89 rfl pn)) (fun J56 => ?_) ?_
        · rcases Bool.eq_false_or_eq_true ((sepI z9 z14 z17 z18) == (sepI z9 z14 z18 z17)) with g47 | g47
          · skip
            have g47p := g47
            try simp only [Bool.not_eq_true', Bool.not_eq_false', decide_eq_true_eq, decide_eq_false_iff_not, Bool.and_eq_true, Bool.or_eq_false_iff, withinB_iff] at g47p
            refine kl_gT rfl rfl g47 ?_
            refine kl_mv rfl ?_
            refine kl_gT rfl rfl g47 ?_
            refine kl_not rfl ?_
            refine kl_gT rfl rfl g47 ?_
            refine kl_mv rfl ?_
            refine kl_join 12 104 (.bool (!(sepI z9 z14 z17 z18) || (decide (z17 ≠ z18) && !((nbI z9 z17).contains z18)))) (pc 2 rfl (pc 89 rfl (pc 92 rfl pn))) (fun J55 => ?_) ?_
            · rcases Bool.eq_false_or_eq_true (!(sepI z9 z14 z17 z18)) with g48 | g48
              · skip
                refine kl_gF rfl rfl g48 ?_
                refine kl_gF rfl rfl g48 ?_
                refine kl_gF rfl rfl g48 ?_
                refine kl_gF rfl rfl g48 ?_
                refine kl_gU rfl rfl ?_
                refine kl_gU rfl rfl ?_
                refine kl_gU rfl rfl ?_
                refine kl_gU rfl rfl ?_
                refine kl_gU rfl rfl ?_
                refine kl_gU rfl rfl ?_
                refine kl_gF rfl rfl g48 ?_
                refine kl_gT rfl rfl g47 ?_
                refine kl_orT (decide (z17 ≠ z18) && !((nbI z9 z17).contains z18)) rfl rfl g48 ?_
                exact J55 _ (pc 104 rfl (pc 2 rfl (pc 89 rfl (pc 92 rfl pn))))
              · skip
                have g48p := g48
                try simp only [Bool.not_eq_true', Bool.not_eq_false', decide_eq_true_eq, decide_eq_false_iff_not, Bool.and_eq_true, Bool.or_eq_false_iff, withinB_iff] at g48p
                refine kl_gT rfl rfl g48 ?_
                refine kl_mv rfl ?_
                refine kl_gT rfl rfl g48 ?_
                refine kl_mv rfl ?_
                refine kl_gT rfl rfl g48 ?_
                refine kl_neq rfl rfl ?_
                refine kl_gT rfl rfl g48 ?_
                refine kl_mv rfl ?_
                refine kl_join 7 103 (.bool (decide (z17 ≠ z18) && !((nbI z9 z17).contains z18))) (pc 2 rfl (pc 89 rfl (pc 92 rfl (pc 96 rfl pn)))) (fun J54 => ?_) ?_
                · rcases Bool.eq_false_or_eq_true (decide (z17 ≠ z18)) with g49 | g49
                  · skip
                    have g49p := of_decide_eq_true g49
                    refine kl_gT rfl rfl g49 ?_
                    refine kl_ldW rfl rfl ?_
                    refine kl_gT rfl rfl g49 ?_
                    refine kl_mv rfl ?_
                    refine kl_gT rfl rfl g49 ?_
                    refine kl_call rfl rfl (neighbours_ok z9 z17 (by assumption) (by assumption)) (fun v50 H51 f52 h53 => ?_)
                    refine kl_gT rfl rfl g49 ?_
                    refine kl_mv rfl ?_
                    refine kl_gT rfl rfl g49 ?_
                    refine kl_callP rfl rfl (lcontains_ok (nbI z9 z17) z18 (by assumption)) ?_
                    refine kl_gT rfl rfl g49 ?_
                    refine kl_not rfl ?_
                    refine kl_gT rfl rfl g48 ?_
                    refine kl_andT rfl rfl g49 ?_
                    exact kl_fg (List.Sublist.refl _) (J54 _ (pc 103 rfl (pc 2 rfl (pc 89 rfl (pc 92 rfl (pc 96 rfl pn))))))
                  · skip
                    refine kl_gF rfl rfl g49 ?_
                    refine kl_gF rfl rfl g49 ?_
                    refine kl_gF rfl rfl g49 ?_
                    refine kl_gF rfl rfl g49 ?_
                    refine kl_gF rfl rfl g49 ?_
                    refine kl_gF rfl rfl g49 ?_
                    refine kl_gT rfl rfl g48 ?_
                    refine kl_andF (!((nbI z9 z17).contains z18)) rfl rfl g49 ?_
                    exact J54 _ (pc 103 rfl (pc 2 rfl (pc 89 rfl (pc 92 rfl (pc 96 rfl pn)))))
                refine kl_gT rfl rfl g47 ?_
                refine kl_orF rfl rfl g48 ?_
                exact kl_fg (List.Sublist.refl _) (J55 _ (pc 104 rfl (pc 2 rfl (pc 89 rfl (pc 92 rfl pn)))))
            refine kl_andT rfl rfl g47 ?_
            exact kl_fg (List.Sublist.refl _) (J56 _ (pc 105 rfl (pc 2 rfl (pc 89 rfl pn))))
          · skip
            refine kl_gF rfl rfl g47 ?_
            refine kl_gF rfl rfl g47 ?_
            refine kl_gF rfl rfl g47 ?_
            refine kl_gU rfl rfl ?_
            refine kl_gU rfl rfl ?_
            refine kl_gU rfl rfl ?_
            refine kl_gU rfl rfl ?_
            refine kl_gU rfl rfl ?_
            refine kl_gU rfl rfl ?_
            refine kl_gU rfl rfl ?_
            refine kl_gU rfl rfl ?_
            refine kl_gU rfl rfl ?_
            refine kl_gU rfl rfl ?_
            refine kl_gU rfl rfl ?_
            refine kl_gF rfl rfl g47 ?_
            refine kl_andF (!(sepI z9 z14 z17 z18) || (decide (z17 ≠ z18) && !((nbI z9 z17).contains z18))) rfl rfl g47 ?_
            exact J56 _ (pc 105 rfl (pc 2 rfl (pc 89 rfl pn)))
        refine kl_as rfl ?_
        refine kl_nil ?_
        refine kq_code ?_
        refine kc_ret ?_
        refine kq_retP rfl rfl (congrArg Value.bool ?_)
        first | rfl | (rw [sep_eq]; simp; done) | exact sep_fin _ _ _ _
end Go.Proofs.YtooiagkfhhfojaaDoor
