/- Walks of functions of the program: each returns what the plain function gives. Conditions: those that each statement names. -/
import Derived.Test.YtigngogjgohfgaaGreatWdmm
import Derived.Test.YtigngogjgohfgaaGreatWmin
import Derived.Test.YtigngogjgohfgaaGreatWgame
import Derived.Test.YtigngogjgohfgaaGreatWsgame
import Derived.Test.YtigngogjgohfgaaGreatWats
namespace Go.Proofs.YtigngogjgohfgaaGreat
open Go
set_option linter.unusedSimpArgs false
set_option linter.unusedVariables false
theorem lawFnMm_ok {Hcode : Hp} {vcode : Value} (code : List Int) (hcode : Bytes Hcode vcode code) : SpecP Tryz.prog 5 [vcode] [Hcode] (.bool true) := by
  refine spec_of Tryz.func5 rfl rfl rfl (fun B => ?_)
  refine kc_seq ?_
  refine kc_region ?_
  refine kl_as rfl ?_
  refine kl_nil ?_
  refine kq_code ?_
  refine kc_seq ?_
  refine kc_seq ?_
  refine kc_region ?_
  refine kl_mv rfl ?_
  refine kl_len rfl (by assumption) (fun l1 => ?_)
  refine kl_gtr rfl rfl ?_
  refine kl_nil ?_
  refine kq_code ?_
  refine kc_if rfl (fun c2 => ?_) (fun c2 => ?_)
  · skip
    refine kc_seq ?_
    refine kc_region ?_
    refine kl_as rfl ?_
    refine kl_nil ?_
    refine kq_code ?_
    refine kc_ret ?_
    refine kq_retP rfl rfl (congrArg Value.bool ?_)
    first | rfl | (simp; done) | exact min_fin hme
  · skip
    refine kc_skipQ ?_
    refine kq_code ?_
    refine kc_seq ?_
    refine kc_region ?_
    refine kl_mv rfl ?_
    refine kl_call rfl rfl (drawMm_ok code hcode) (fun v3 H4 f5 h6 => ?_)
    obtain ⟨z9, z14, z17, u10, u11, u15, u18, rfl, h12, h13, h16, h19, h8⟩ := h6
    have hd1 := h8.1.d1
    have hd4 := h8.1.d
    have hco := h8.2.1
    refine kl_mv rfl ?_
    refine kl_xt rfl rfl ?_
    refine kl_xt rfl rfl ?_
    refine kl_xt rfl rfl ?_
    refine kl_alloc (cs := [.slice none 0 0, .slice none 0 0]) rfl (fun b20 hb21 => ?_)
    refine kl_stW (us := [u10, u11]) rfl rfl rfl rfl (oc (Sl.oneCell (by assumption)) (oc (Sl.oneCell (by assumption)) oc_nil)) rfl ?_
    refine kl_chg [sing b20 (.cells [u10, u11].toArray 26 (0, 0))] rfl ?_
    refine kl_as rfl ?_
    refine kl_as rfl ?_
    refine kl_nil ?_
    refine kq_code ?_
    refine kc_seq ?_
    refine kc_region ?_
    refine kl_ldW rfl rfl ?_
    refine kl_mv rfl ?_
    refine kl_mv rfl ?_
    refine kl_callP rfl rfl (iminimax_ok z9 z14 z17 (by assumption) (by assumption) (by assumption) (by assumption)) ?_
    refine kl_mv rfl ?_
    refine kl_xt rfl rfl ?_
    refine kl_xt rfl rfl ?_
    refine kl_as rfl ?_
    refine kl_as rfl ?_
    refine kl_nil ?_
    refine kq_code ?_
    refine kc_seq ?_
    refine kc_region ?_
    refine kl_ldW rfl rfl ?_
    refine kl_mv rfl ?_
    refine kl_mv rfl ?_
    refine kl_callP rfl rfl (sminimax_ok z9 z14 z17 (by assumption) (by assumption) (by assumption) (by assumption)) ?_
    refine kl_mv rfl ?_
    refine kl_xt rfl rfl ?_
    refine kl_xt rfl rfl ?_
    refine kl_as rfl ?_
    refine kl_as rfl ?_
    refine kl_nil ?_
    refine kq_code ?_
    refine kc_seq ?_
    refine kc_seq ?_
    refine kc_region ?_
    refine kl_mv rfl ?_
    refine kl_mv rfl ?_
    refine kl_bne rfl rfl ?_
    refine kl_mv rfl ?_
    refine kl_join 4 44 (.bool ((((minimaxB z9 z14 z17).2) != ((minimaxB z9 z14 z17).2)) || decide (((minimaxB z9 z14 z17).1) ≠ ((minimaxB z9 z14 z17).1)))) (pc 2 rfl (pc 3 rfl (pc 4 rfl (pc 5 rfl (pc 6 rfl (pc 7 rfl (pc 8 rfl (pc 9 rfl (pc 40 rfl pn))))))))) (fun J23 => ?_) ?_
    · rcases Bool.eq_false_or_eq_true (((minimaxB z9 z14 z17).2) != ((minimaxB z9 z14 z17).2)) with g22 | g22
      · skip
        refine kl_gF rfl rfl g22 ?_
        refine kl_gF rfl rfl g22 ?_
        refine kl_gF rfl rfl g22 ?_
        refine kl_orT (decide (((minimaxB z9 z14 z17).1) ≠ ((minimaxB z9 z14 z17).1))) rfl rfl g22 ?_
        exact J23 _ (pc 44 rfl (pc 2 rfl (pc 3 rfl (pc 4 rfl (pc 5 rfl (pc 6 rfl (pc 7 rfl (pc 8 rfl (pc 9 rfl (pc 40 rfl pn))))))))))
      · skip
        have g22p := g22
        try simp only [Bool.not_eq_true', Bool.not_eq_false', decide_eq_true_eq, decide_eq_false_iff_not, Bool.and_eq_true, Bool.or_eq_false_iff, withinB_iff] at g22p
        refine kl_gT rfl rfl g22 ?_
        refine kl_mv rfl ?_
        refine kl_gT rfl rfl g22 ?_
        refine kl_mv rfl ?_
        refine kl_gT rfl rfl g22 ?_
        refine kl_neq rfl rfl ?_
        refine kl_orF rfl rfl g22 ?_
        exact J23 _ (pc 44 rfl (pc 2 rfl (pc 3 rfl (pc 4 rfl (pc 5 rfl (pc 6 rfl (pc 7 rfl (pc 8 rfl (pc 9 rfl (pc 40 rfl pn))))))))))
    refine kl_mv rfl ?_
    refine kl_join 3 48 (.bool (((((minimaxB z9 z14 z17).2) != ((minimaxB z9 z14 z17).2)) || decide (((minimaxB z9 z14 z17).1) ≠ ((minimaxB z9 z14 z17).1))) || !((minimaxB z9 z14 z17).2))) (pc 2 rfl (pc 3 rfl (pc 4 rfl (pc 5 rfl (pc 6 rfl (pc 7 rfl (pc 8 rfl (pc 9 rfl (pc 45 rfl pn))))))))) (fun J25 => ?_) ?_
    · rcases Bool.eq_false_or_eq_true ((((minimaxB z9 z14 z17).2) != ((minimaxB z9 z14 z17).2)) || decide (((minimaxB z9 z14 z17).1) ≠ ((minimaxB z9 z14 z17).1))) with g24 | g24
      · skip
        refine kl_gF rfl rfl g24 ?_
        refine kl_gF rfl rfl g24 ?_
        refine kl_orT (!((minimaxB z9 z14 z17).2)) rfl rfl g24 ?_
        exact J25 _ (pc 48 rfl (pc 2 rfl (pc 3 rfl (pc 4 rfl (pc 5 rfl (pc 6 rfl (pc 7 rfl (pc 8 rfl (pc 9 rfl (pc 45 rfl pn))))))))))
      · skip
        have g24p := g24
        try simp only [Bool.not_eq_true', Bool.not_eq_false', decide_eq_true_eq, decide_eq_false_iff_not, Bool.and_eq_true, Bool.or_eq_false_iff, withinB_iff] at g24p
        refine kl_gT rfl rfl g24 ?_
        refine kl_mv rfl ?_
        refine kl_gT rfl rfl g24 ?_
        refine kl_not rfl ?_
        refine kl_orF rfl rfl g24 ?_
        exact J25 _ (pc 48 rfl (pc 2 rfl (pc 3 rfl (pc 4 rfl (pc 5 rfl (pc 6 rfl (pc 7 rfl (pc 8 rfl (pc 9 rfl (pc 45 rfl pn))))))))))
    refine kl_nil ?_
    refine kq_code ?_
    refine kc_cond rfl (fun c26 => ?_) (fun c26 => ?_)
    · skip
      have c26r := c26
      try simp only [Bool.not_eq_true', Bool.not_eq_false', Bool.not_true, Bool.not_false, decide_eq_true_eq, decide_eq_false_iff_not, Bool.and_eq_true, Bool.or_eq_false_iff] at c26
      refine kc_seq ?_
      refine kc_region ?_
      refine kl_mv rfl ?_
      refine kl_mv rfl ?_
      refine kl_beq rfl rfl ?_
      refine kl_mv rfl ?_
      refine kl_join 4 56 (.bool ((((minimaxB z9 z14 z17).2) == ((minimaxB z9 z14 z17).2)) && decide (((minimaxB z9 z14 z17).1) = ((minimaxB z9 z14 z17).1)))) (pc 2 rfl (pc 3 rfl (pc 4 rfl (pc 5 rfl (pc 6 rfl (pc 52 rfl pn)))))) (fun J28 => ?_) ?_
      · rcases Bool.eq_false_or_eq_true (((minimaxB z9 z14 z17).2) == ((minimaxB z9 z14 z17).2)) with g27 | g27
        · skip
          have g27p := g27
          try simp only [Bool.not_eq_true', Bool.not_eq_false', decide_eq_true_eq, decide_eq_false_iff_not, Bool.and_eq_true, Bool.or_eq_false_iff, withinB_iff] at g27p
          refine kl_gT rfl rfl g27 ?_
          refine kl_mv rfl ?_
          refine kl_gT rfl rfl g27 ?_
          refine kl_mv rfl ?_
          refine kl_gT rfl rfl g27 ?_
          refine kl_eql rfl rfl ?_
          refine kl_andT rfl rfl g27 ?_
          exact J28 _ (pc 56 rfl (pc 2 rfl (pc 3 rfl (pc 4 rfl (pc 5 rfl (pc 6 rfl (pc 52 rfl pn)))))))
        · skip
          refine kl_gF rfl rfl g27 ?_
          refine kl_gF rfl rfl g27 ?_
          refine kl_gF rfl rfl g27 ?_
          refine kl_andF (decide (((minimaxB z9 z14 z17).1) = ((minimaxB z9 z14 z17).1))) rfl rfl g27 ?_
          exact J28 _ (pc 56 rfl (pc 2 rfl (pc 3 rfl (pc 4 rfl (pc 5 rfl (pc 6 rfl (pc 52 rfl pn)))))))
      refine kl_as rfl ?_
      refine kl_nil ?_
      refine kq_code ?_
      refine kc_ret ?_
      refine kq_retP rfl rfl (congrArg Value.bool ?_)
      first | rfl | (simp; done) | exact min_fin hme
    · skip
      have c26r := c26
      try simp only [Bool.not_eq_true', Bool.not_eq_false', Bool.not_true, Bool.not_false, decide_eq_true_eq, decide_eq_false_iff_not, Bool.and_eq_true, Bool.or_eq_false_iff] at c26
      have hme := mm_g2 c26r
      refine kc_skipQ ?_
      refine kq_code ?_
      refine kc_seq ?_
      refine kc_tree (fun i => ([6] : List Nat).contains i) [sing b20 (.cells [u10, u11].toArray 26 (0, 0))] (by kernel_rfl) ?_
      refine kt_q 0 (.cons_cons _ (List.nil_sublist _)) rfl (by kernel_rfl) ?_
      refine kl_ldS rfl (at_box (T := 26) (cs := [u10, u11]) (off := 0) (fz := (0, 0))) rfl ?_
      refine kl_nil (kq_q ?_)
      refine kt_q 1 (.cons_cons _ (List.nil_sublist _)) rfl (by kernel_rfl) ?_
      refine kl_mv rfl ?_
      refine kl_nil (kq_q ?_)
      refine kt_q 2 (.cons_cons _ (List.nil_sublist _)) rfl (by kernel_rfl) ?_
      refine kl_fdV rfl ?_
      refine kl_nil (kq_q ?_)
      refine kt_q 3 (.cons_cons _ (List.nil_sublist _)) rfl (by kernel_rfl) ?_
      refine kl_ld rfl (at_box (T := 26) (cs := [u10, u11]) (off := 0) (fz := (0, 0))) ?_
      refine kl_nil (kq_q ?_)
      refine kt_q 4 (.cons_cons _ (List.nil_sublist _)) rfl (by kernel_rfl) ?_
      refine kl_len rfl (by assumption) (fun l29 => ?_)
      refine kl_nil (kq_q ?_)
      refine kt_a 5 rfl (by kernel_rfl) ?_
      refine kl_call rfl rfl (allSame_ok (z9.doms.length : Int) false (by omega)) (fun v30 H31 f32 h33 => ?_)
      refine kl_nil (kq_a (.cons_cons _ (List.nil_sublist _)) ?_)
      refine kt_a 6 rfl (by kernel_rfl) ?_
      refine kl_callP rfl rfl (iminimax_ok z9 z14 (List.replicate (z9.doms.length : Int).toNat false) (by assumption) (by assumption) (by assumption) (by assumption)) ?_
      refine kl_nil (kq_x rfl ?_)
      refine kt_q 7 (.cons_cons _ (List.nil_sublist _)) rfl (by kernel_rfl) ?_
      refine kl_mv rfl ?_
      refine kl_nil (kq_q ?_)
      refine kt_q 8 (.cons_cons _ (List.nil_sublist _)) rfl (by kernel_rfl) ?_
      refine kl_xt rfl rfl ?_
      refine kl_nil (kq_q ?_)
      refine kt_q 9 (.cons_cons _ (List.nil_sublist _)) rfl (by kernel_rfl) ?_
      refine kl_xt rfl rfl ?_
      refine kl_nil (kq_q ?_)
      refine kt_q 10 (.cons_cons _ (List.nil_sublist _)) rfl (by kernel_rfl) ?_
      refine kl_as rfl ?_
      refine kl_nil (kq_q ?_)
      refine kt_q 11 (.cons_cons _ (List.nil_sublist _)) rfl (by kernel_rfl) ?_
      refine kl_as rfl ?_
      refine kl_nil (kq_q ?_)
      refine kt_end (by kernel_rfl) ?_
      refine kq_code ?_
      refine kc_seq ?_
      refine kc_region ?_
      refine kl_ldW rfl rfl ?_
      refine kl_mv rfl ?_
      refine kl_call rfl rfl (minI_ok z9 z14 (by assumption) (by assumption) (by assumption)) (fun v34 H35 f36 h37 => ?_)
      obtain ⟨u38, rfl, h39⟩ := h37
      refine kl_mv rfl ?_
      refine kl_xt rfl rfl ?_
      refine kl_xt rfl rfl ?_
      refine kl_as rfl ?_
      refine kl_as rfl ?_
      refine kl_nil ?_
      refine kq_code ?_
      refine kc_seq ?_
      refine kc_region ?_
      refine kl_ldW rfl rfl ?_
      refine kl_mv rfl ?_
      refine kl_callP rfl rfl (iqt_ok z9 z17 (by assumption) (by assumption) (by assumption)) ?_
      refine kl_mv rfl ?_
      refine kl_join 2 78 (.bool ((qtrueB z9 z17) && ((minimaxB z9 z14 (List.replicate (z9.doms.length : Int).toNat false)).2))) (pc 2 rfl (pc 4 rfl (pc 6 rfl (pc 10 rfl (pc 12 rfl (pc 13 rfl (pc 76 rfl pn))))))) (fun J41 => ?_) ?_
      · rcases Bool.eq_false_or_eq_true (qtrueB z9 z17) with g40 | g40
        · skip
          have g40p := g40
          try simp only [Bool.not_eq_true', Bool.not_eq_false', decide_eq_true_eq, decide_eq_false_iff_not, Bool.and_eq_true, Bool.or_eq_false_iff, withinB_iff] at g40p
          refine kl_gT rfl rfl g40 ?_
          refine kl_mv rfl ?_
          refine kl_andT rfl rfl g40 ?_
          exact J41 _ (pc 78 rfl (pc 2 rfl (pc 4 rfl (pc 6 rfl (pc 10 rfl (pc 12 rfl (pc 13 rfl (pc 76 rfl pn))))))))
        · skip
          refine kl_gF rfl rfl g40 ?_
          refine kl_andF ((minimaxB z9 z14 (List.replicate (z9.doms.length : Int).toNat false)).2) rfl rfl g40 ?_
          exact J41 _ (pc 78 rfl (pc 2 rfl (pc 4 rfl (pc 6 rfl (pc 10 rfl (pc 12 rfl (pc 13 rfl (pc 76 rfl pn))))))))
      refine kl_mv rfl ?_
      refine kl_join 2 81 (.bool (((qtrueB z9 z17) && ((minimaxB z9 z14 (List.replicate (z9.doms.length : Int).toNat false)).2)) && ((minI z9 z14).2))) (pc 2 rfl (pc 4 rfl (pc 6 rfl (pc 10 rfl (pc 12 rfl (pc 79 rfl pn)))))) (fun J43 => ?_) ?_
      · rcases Bool.eq_false_or_eq_true ((qtrueB z9 z17) && ((minimaxB z9 z14 (List.replicate (z9.doms.length : Int).toNat false)).2)) with g42 | g42
        · skip
          have g42p := g42
          try simp only [Bool.not_eq_true', Bool.not_eq_false', decide_eq_true_eq, decide_eq_false_iff_not, Bool.and_eq_true, Bool.or_eq_false_iff, withinB_iff] at g42p
          refine kl_gT rfl rfl g42 ?_
          refine kl_mv rfl ?_
          refine kl_andT rfl rfl g42 ?_
          exact J43 _ (pc 81 rfl (pc 2 rfl (pc 4 rfl (pc 6 rfl (pc 10 rfl (pc 12 rfl (pc 79 rfl pn)))))))
        · skip
          refine kl_gF rfl rfl g42 ?_
          refine kl_andF ((minI z9 z14).2) rfl rfl g42 ?_
          exact J43 _ (pc 81 rfl (pc 2 rfl (pc 4 rfl (pc 6 rfl (pc 10 rfl (pc 12 rfl (pc 79 rfl pn)))))))
      refine kl_mv rfl ?_
      refine kl_join 6 88 (.bool ((((qtrueB z9 z17) && ((minimaxB z9 z14 (List.replicate (z9.doms.length : Int).toNat false)).2)) && ((minI z9 z14).2)) && decide (((minimaxB z9 z14 (List.replicate (z9.doms.length : Int).toNat false)).1) = (objVal z14 ((minI z9 z14).1))))) (pc 2 rfl (pc 6 rfl (pc 10 rfl (pc 82 rfl pn)))) (fun J45 => ?_) ?_
      · rcases Bool.eq_false_or_eq_true (((qtrueB z9 z17) && ((minimaxB z9 z14 (List.replicate (z9.doms.length : Int).toNat false)).2)) && ((minI z9 z14).2)) with g44 | g44
        · skip
          have g44p := g44
          try simp only [Bool.not_eq_true', Bool.not_eq_false', decide_eq_true_eq, decide_eq_false_iff_not, Bool.and_eq_true, Bool.or_eq_false_iff, withinB_iff] at g44p
          refine kl_gT rfl rfl g44 ?_
          refine kl_mv rfl ?_
          refine kl_gT rfl rfl g44 ?_
          refine kl_mv rfl ?_
          refine kl_gT rfl rfl g44 ?_
          refine kl_mv rfl ?_
          refine kl_gT rfl rfl g44 ?_
          refine kl_callP rfl rfl (objValI_ok z14 ((minI z9 z14).1) (by assumption) (by assumption)) ?_
          refine kl_gT rfl rfl g44 ?_
          refine kl_eql rfl rfl ?_
          refine kl_andT rfl rfl g44 ?_
          exact J45 _ (pc 88 rfl (pc 2 rfl (pc 6 rfl (pc 10 rfl (pc 82 rfl pn)))))
        · skip
          refine kl_gF rfl rfl g44 ?_
          refine kl_gF rfl rfl g44 ?_
          refine kl_gF rfl rfl g44 ?_
          refine kl_gF rfl rfl g44 ?_
          refine kl_gF rfl rfl g44 ?_
          refine kl_andF (decide (((minimaxB z9 z14 (List.replicate (z9.doms.length : Int).toNat false)).1) = (objVal z14 ((minI z9 z14).1)))) rfl rfl g44 ?_
          exact J45 _ (pc 88 rfl (pc 2 rfl (pc 6 rfl (pc 10 rfl (pc 82 rfl pn)))))
      refine kl_mv rfl ?_
      refine kl_join 4 93 (.bool (((((qtrueB z9 z17) && ((minimaxB z9 z14 (List.replicate (z9.doms.length : Int).toNat false)).2)) && ((minI z9 z14).2)) && decide (((minimaxB z9 z14 (List.replicate (z9.doms.length : Int).toNat false)).1) = (objVal z14 ((minI z9 z14).1)))) && decide (((minimaxB z9 z14 (List.replicate (z9.doms.length : Int).toNat false)).1) ≤ ((minimaxB z9 z14 z17).1)))) (pc 2 rfl (pc 89 rfl pn)) (fun J47 => ?_) ?_
      · rcases Bool.eq_false_or_eq_true ((((qtrueB z9 z17) && ((minimaxB z9 z14 (List.replicate (z9.doms.length : Int).toNat false)).2)) && ((minI z9 z14).2)) && decide (((minimaxB z9 z14 (List.replicate (z9.doms.length : Int).toNat false)).1) = (objVal z14 ((minI z9 z14).1)))) with g46 | g46
        · skip
          have g46p := g46
          try simp only [Bool.not_eq_true', Bool.not_eq_false', decide_eq_true_eq, decide_eq_false_iff_not, Bool.and_eq_true, Bool.or_eq_false_iff, withinB_iff] at g46p
          refine kl_gT rfl rfl g46 ?_
          refine kl_mv rfl ?_
          refine kl_gT rfl rfl g46 ?_
          refine kl_mv rfl ?_
          refine kl_gT rfl rfl g46 ?_
          refine kl_leq rfl rfl ?_
          refine kl_andT rfl rfl g46 ?_
          exact J47 _ (pc 93 rfl (pc 2 rfl (pc 89 rfl pn)))
        · skip
          refine kl_gF rfl rfl g46 ?_
          refine kl_gF rfl rfl g46 ?_
          refine kl_gF rfl rfl g46 ?_
          refine kl_andF (decide (((minimaxB z9 z14 (List.replicate (z9.doms.length : Int).toNat false)).1) ≤ ((minimaxB z9 z14 z17).1))) rfl rfl g46 ?_
          exact J47 _ (pc 93 rfl (pc 2 rfl (pc 89 rfl pn)))
      refine kl_as rfl ?_
      refine kl_nil ?_
      refine kq_code ?_
      refine kc_ret ?_
      refine kq_retP rfl rfl (congrArg Value.bool ?_)
      first | rfl | (simp; done) | exact min_fin hme
end Go.Proofs.YtigngogjgohfgaaGreat
