/- Walks of functions of the program: each returns what the plain function gives. Conditions: those that each statement names. -/
import Derived.Test.YtooiagkfhhfojaaWdn
import Derived.Test.YtooiagkfhhfojaaWfl
import Derived.Test.YtooiagkfhhfojaaWnb
import Derived.Test.YtooiagkfhhfojaaWsnb
import Derived.Test.YtooiagkfhhfojaaPureN
namespace Go.Proofs.Ytooiagkfhhfojaa
open Go
set_option linter.unusedSimpArgs false
set_option linter.unusedVariables false
theorem lawFnNb_ok {Hcode : Hp} {vcode : Value} (code : List Int) (hcode : Bytes Hcode vcode code) : SpecP Try.prog 3 [vcode] [Hcode] (.bool true) := by
  refine spec_of Try.func3 rfl rfl rfl (fun B => ?_)
  refine kc_seq ?_
  refine kc_region ?_
  refine kl_as rfl ?_
  refine kl_nil ?_
  refine kq_code ?_
  refine kc_seq ?_
  refine kc_seq ?_
  refine kc_region ?_
  refine kl_mv rfl ?_
  refine kl_len rfl (by assumption) (fun l1 => ?_)
  refine kl_gtr rfl rfl ?_
  refine kl_nil ?_
  refine kq_code ?_
  refine kc_if rfl (fun c2 => ?_) (fun c2 => ?_)
  · skip
    refine kc_seq ?_
    refine kc_region ?_
    refine kl_as rfl ?_
    refine kl_nil ?_
    refine kq_code ?_
    refine kc_ret ?_
    refine kq_retP rfl rfl (congrArg Value.bool ?_)
    first | rfl | (rw [nb_eq]; simp; done) | exact nb_irr hg.1 hg.2
  · skip
    refine kc_skipQ ?_
    refine kq_code ?_
    refine kc_seq ?_
    refine kc_region ?_
    refine kl_mv rfl ?_
    refine kl_call rfl rfl (drawNb_ok code hcode) (fun v3 H4 f5 h6 => ?_)
    obtain ⟨z9, z14, u10, u11, rfl, h12, h13, h8⟩ := h6
    have hd1 := h8.d1
    have hd4 := h8.d
    refine kl_mv rfl ?_
    refine kl_xt rfl rfl ?_
    refine kl_xt rfl rfl ?_
    refine kl_alloc (cs := [.slice none 0 0, .slice none 0 0]) rfl (fun b15 hb16 => ?_)
    refine kl_stW (us := [u10, u11]) rfl rfl rfl rfl (oc (Sl.oneCell (by assumption)) (oc (Sl.oneCell (by assumption)) oc_nil)) rfl ?_
    refine kl_chg [sing b15 (.cells [u10, u11].toArray 26 (0, 0))] rfl ?_
    refine kl_as rfl ?_
    refine kl_nil ?_
    refine kq_code ?_
    refine kc_seq ?_
    refine kc_region ?_
    refine kl_ldW rfl rfl ?_
    refine kl_mv rfl ?_
    refine kl_call rfl rfl (neighbours_ok z9 z14 (by assumption) (by assumption)) (fun v17 H18 f19 h20 => ?_)
    refine kl_as rfl ?_
    refine kl_nil ?_
    refine kq_code ?_
    refine kc_seq ?_
    refine kc_seq ?_
    refine kc_region ?_
    refine kl_mv rfl ?_
    refine kl_ldW rfl rfl ?_
    refine kl_mv rfl ?_
    refine kl_call rfl rfl (sneighbours_ok z9 z14 (by omega) (by assumption) (by assumption)) (fun v21 H22 f23 h24 => ?_)
    refine kl_callP rfl rfl (equalInts_ok (nbI z9 z14) (nbS z9 z14) (by assumption) (by assumption)) ?_
    refine kl_not rfl ?_
    refine kl_mv rfl ?_
    refine kl_join 4 28 (.bool (!(decide ((nbI z9 z14) = (nbS z9 z14))) || !(validModB z9))) (pc 2 rfl (pc 3 rfl (pc 4 rfl (pc 5 rfl (pc 24 rfl pn))))) (fun J26 => ?_) ?_
    · rcases Bool.eq_false_or_eq_true (!(decide ((nbI z9 z14) = (nbS z9 z14)))) with g25 | g25
      · skip
        refine kl_gF rfl rfl g25 ?_
        refine kl_gF rfl rfl g25 ?_
        refine kl_gF rfl rfl g25 ?_
        refine kl_orT (!(validModB z9)) rfl rfl g25 ?_
        exact J26 _ (pc 28 rfl (pc 2 rfl (pc 3 rfl (pc 4 rfl (pc 5 rfl (pc 24 rfl pn))))))
      · skip
        have g25p := g25
        try simp only [Bool.not_eq_true', Bool.not_eq_false', decide_eq_true_eq, decide_eq_false_iff_not, Bool.and_eq_true, Bool.or_eq_false_iff, withinB_iff] at g25p
        refine kl_gT rfl rfl g25 ?_
        refine kl_ldW rfl rfl ?_
        refine kl_gT rfl rfl g25 ?_
        refine kl_callP rfl rfl (validMod_ok z9 (by assumption) (by assumption)) ?_
        refine kl_gT rfl rfl g25 ?_
        refine kl_not rfl ?_
        refine kl_orF rfl rfl g25 ?_
        exact J26 _ (pc 28 rfl (pc 2 rfl (pc 3 rfl (pc 4 rfl (pc 5 rfl (pc 24 rfl pn))))))
    refine kl_mv rfl ?_
    refine kl_join 3 32 (.bool ((!(decide ((nbI z9 z14) = (nbS z9 z14))) || !(validModB z9)) || decide (z14 < (0 : Int)))) (pc 2 rfl (pc 3 rfl (pc 4 rfl (pc 5 rfl (pc 29 rfl pn))))) (fun J28 => ?_) ?_
    · rcases Bool.eq_false_or_eq_true (!(decide ((nbI z9 z14) = (nbS z9 z14))) || !(validModB z9)) with g27 | g27
      · skip
        refine kl_gF rfl rfl g27 ?_
        refine kl_gF rfl rfl g27 ?_
        refine kl_orT (decide (z14 < (0 : Int))) rfl rfl g27 ?_
        exact J28 _ (pc 32 rfl (pc 2 rfl (pc 3 rfl (pc 4 rfl (pc 5 rfl (pc 29 rfl pn))))))
      · skip
        have g27p := g27
        try simp only [Bool.not_eq_true', Bool.not_eq_false', decide_eq_true_eq, decide_eq_false_iff_not, Bool.and_eq_true, Bool.or_eq_false_iff, withinB_iff] at g27p
        refine kl_gT rfl rfl g27 ?_
        refine kl_mv rfl ?_
        refine kl_gT rfl rfl g27 ?_
        refine kl_lss rfl rfl ?_
        refine kl_orF rfl rfl g27 ?_
        exact J28 _ (pc 32 rfl (pc 2 rfl (pc 3 rfl (pc 4 rfl (pc 5 rfl (pc 29 rfl pn))))))
    refine kl_mv rfl ?_
    refine kl_join 6 39 (.bool (((!(decide ((nbI z9 z14) = (nbS z9 z14))) || !(validModB z9)) || decide (z14 < (0 : Int))) || decide ((z9.doms.length : Int) ≤ z14))) (pc 2 rfl (pc 3 rfl (pc 4 rfl (pc 5 rfl (pc 33 rfl pn))))) (fun J31 => ?_) ?_
    · rcases Bool.eq_false_or_eq_true ((!(decide ((nbI z9 z14) = (nbS z9 z14))) || !(validModB z9)) || decide (z14 < (0 : Int))) with g29 | g29
      · skip
        refine kl_gF rfl rfl g29 ?_
        refine kl_gF rfl rfl g29 ?_
        refine kl_gF rfl rfl g29 ?_
        refine kl_gF rfl rfl g29 ?_
        refine kl_gF rfl rfl g29 ?_
        refine kl_orT (decide ((z9.doms.length : Int) ≤ z14)) rfl rfl g29 ?_
        exact J31 _ (pc 39 rfl (pc 2 rfl (pc 3 rfl (pc 4 rfl (pc 5 rfl (pc 33 rfl pn))))))
      · skip
        have g29p := g29
        try simp only [Bool.not_eq_true', Bool.not_eq_false', decide_eq_true_eq, decide_eq_false_iff_not, Bool.and_eq_true, Bool.or_eq_false_iff, withinB_iff] at g29p
        refine kl_gT rfl rfl g29 ?_
        refine kl_mv rfl ?_
        refine kl_gT rfl rfl g29 ?_
        refine kl_fdV rfl ?_
        refine kl_gT rfl rfl g29 ?_
        refine kl_ldB rfl rfl ?_
        refine kl_gT rfl rfl g29 ?_
        refine kl_len rfl (by assumption) (fun l30 => ?_)
        refine kl_gT rfl rfl g29 ?_
        refine kl_geq rfl rfl ?_
        refine kl_orF rfl rfl g29 ?_
        exact J31 _ (pc 39 rfl (pc 2 rfl (pc 3 rfl (pc 4 rfl (pc 5 rfl (pc 33 rfl pn))))))
    refine kl_nil ?_
    refine kq_code ?_
    refine kc_cond rfl (fun c32 => ?_) (fun c32 => ?_)
    · skip
      have c32r := c32
      try simp only [Bool.not_eq_true', Bool.not_eq_false', Bool.not_true, Bool.not_false, decide_eq_true_eq, decide_eq_false_iff_not, Bool.and_eq_true, Bool.or_eq_false_iff] at c32
      refine kc_seq ?_
      refine kc_region ?_
      refine kl_mv rfl ?_
      refine kl_ldW rfl rfl ?_
      refine kl_mv rfl ?_
      refine kl_call rfl rfl (sneighbours_ok z9 z14 (by omega) (by assumption) (by assumption)) (fun v33 H34 f35 h36 => ?_)
      refine kl_callP rfl rfl (equalInts_ok (nbI z9 z14) (nbS z9 z14) (by assumption) (by assumption)) ?_
      refine kl_as rfl ?_
      refine kl_nil ?_
      refine kq_code ?_
      refine kc_ret ?_
      refine kq_retP rfl rfl (congrArg Value.bool ?_)
      first | rfl | (rw [nb_eq]; simp; done) | exact nb_irr hg.1 hg.2
    · skip
      have c32r := c32
      try simp only [Bool.not_eq_true', Bool.not_eq_false', Bool.not_true, Bool.not_false, decide_eq_true_eq, decide_eq_false_iff_not, Bool.and_eq_true, Bool.or_eq_false_iff] at c32
      have hg := grd4 c32r
      refine kc_skipQ ?_
      refine kq_code ?_
      refine kc_seq ?_
      refine kc_seq ?_
      refine kc_region ?_
      refine kl_as rfl ?_
      refine kl_nil ?_
      refine kq_code ?_
      refine kc_block ?_
      refine kc_loop0 (A := Nat) (fun zz => (zz ≤ z9.doms.length)) (fun zz => z9.doms.length - zz) (fun zz => [(6, .int .i64 (zz : Int))]) (0) (pc 3 rfl (pc 4 rfl (pc 5 rfl pn))) (pc 6 rfl pn) (Nat.zero_le _) ?_
      rintro k hJ39
      have hk37 : (k ≤ z9.doms.length) := hJ39
      change KC _ _ (_) _ _ ([(6, .int .i64 (k : Int))] ++ _)
      refine kc_seq ?_
      refine kc_seq ?_
      refine kc_region ?_
      refine kl_mv rfl ?_
      refine kl_fdV rfl ?_
      refine kl_ldB rfl rfl ?_
      refine kl_len rfl (by assumption) (fun l40 => ?_)
      refine kl_lss rfl rfl ?_
      refine kl_nil ?_
      refine kq_code ?_
      refine kc_if rfl (fun c41 => ?_) (fun c41 => ?_)
      · skip
        refine kc_skipQ ?_
        refine kq_code ?_
        refine kc_seq ?_
        refine kc_block ?_
        refine kc_seq ?_
        refine kc_tree (fun i => ([7] : List Nat).contains i) [sing b15 (.cells [u10, u11].toArray 26 (0, 0))] (by kernel_rfl) ?_
        refine kt_q 0 (.cons_cons _ (List.nil_sublist _)) rfl (by kernel_rfl) ?_
        refine kl_mv rfl ?_
        refine kl_nil (kq_q ?_)
        refine kt_q 1 (.cons_cons _ (List.nil_sublist _)) rfl (by kernel_rfl) ?_
        refine kl_mv rfl ?_
        refine kl_nil (kq_q ?_)
        refine kt_q 3 (.cons_cons _ (List.nil_sublist _)) rfl (by kernel_rfl) ?_
        refine kl_ldS rfl (at_box (T := 26) (cs := [u10, u11]) (off := 0) (fz := (0, 0))) rfl ?_
        refine kl_nil (kq_q ?_)
        refine kt_q 4 (.cons_cons _ (List.nil_sublist _)) rfl (by kernel_rfl) ?_
        refine kl_mv rfl ?_
        refine kl_nil (kq_q ?_)
        refine kt_q 6 (.cons_cons _ (List.nil_sublist _)) rfl (by kernel_rfl) ?_
        refine kl_mv rfl ?_
        refine kl_nil (kq_q ?_)
        refine kt_a 2 rfl (by kernel_rfl) ?_
        refine kl_callP rfl rfl (lcontains_ok (nbI z9 z14) (k : Int) (by assumption)) ?_
        refine kl_nil (kq_a (.cons_cons _ (List.nil_sublist _)) ?_)
        refine kt_a 5 rfl (by kernel_rfl) ?_
        refine kl_call rfl rfl (neighbours_ok z9 (k : Int) (by assumption) (by assumption)) (fun v42 H43 f44 h45 => ?_)
        refine kl_nil (kq_a (.cons_cons _ (List.nil_sublist _)) ?_)
        refine kt_a 7 rfl (by kernel_rfl) ?_
        refine kl_callP rfl rfl (lcontains_ok (nbI z9 (k : Int)) z14 (by assumption)) ?_
        refine kl_nil (kq_x rfl ?_)
        refine kt_q 8 (.cons_cons _ (List.nil_sublist _)) rfl (by kernel_rfl) ?_
        refine kl_bne rfl rfl ?_
        refine kl_nil (kq_q ?_)
        refine kt_end (by kernel_rfl) ?_
        refine kq_code ?_
        refine kc_cond rfl (fun c46 => ?_) (fun c46 => ?_)
        · skip
          have c46r := c46
          try simp only [Bool.not_eq_true', Bool.not_eq_false', Bool.not_true, Bool.not_false, decide_eq_true_eq, decide_eq_false_iff_not, Bool.and_eq_true, Bool.or_eq_false_iff] at c46
          exfalso; rw [nb_sym hg.1 hg.2 (by omega)] at c46r; cases c46r
        · skip
          have c46r := c46
          try simp only [Bool.not_eq_true', Bool.not_eq_false', Bool.not_true, Bool.not_false, decide_eq_true_eq, decide_eq_false_iff_not, Bool.and_eq_true, Bool.or_eq_false_iff] at c46
          refine kc_skipQ ?_
          refine kq_code ?_
          refine kc_region ?_
          refine kl_mv rfl ?_
          refine kl_inc rfl rfl (by omega) ?_
          refine kl_as rfl ?_
          refine kl_nil ?_
          refine kq_round0 ((k + 1)) (by omega) (by omega) (pc 6 rfl pn) (pc 3 rfl (pc 4 rfl (pc 5 rfl pn))) (List.Sublist.refl _)
      · skip
        refine kc_exit ?_
        refine kq_code ?_
        refine kc_seq ?_
        refine kc_region ?_
        refine kl_mv rfl ?_
        refine kl_mv rfl ?_
        refine kl_callP rfl rfl (lcontains_ok (nbI z9 z14) z14 (by assumption)) ?_
        refine kl_not rfl ?_
        refine kl_as rfl ?_
        refine kl_nil ?_
        refine kq_code ?_
        refine kc_ret ?_
        refine kq_retP rfl rfl (congrArg Value.bool ?_)
        first | rfl | (rw [nb_eq]; simp; done) | exact nb_irr hg.1 hg.2
end Go.Proofs.Ytooiagkfhhfojaa
