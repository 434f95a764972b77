/- Walks of functions of the program: each returns what the plain function gives. Conditions: those that each statement names. -/
import Derived.Test.YtigngogjgohfgaaWdq
import Derived.Test.YtigngogjgohfgaaWcnt
import Derived.Test.YtigngogjgohfgaaWats
import Derived.Test.YtigngogjgohfgaaWwin
import Derived.Test.YtigngogjgohfgaaWswin
namespace Go.Proofs.Ytigngogjgohfgaa
open Go
set_option linter.unusedSimpArgs false
set_option linter.unusedVariables false
theorem lawFnQp_ok {Hcode : Hp} {vcode : Value} (code : List Int) (hcode : Bytes Hcode vcode code) : SpecP Try.prog 4 [vcode] [Hcode] (.bool true) := by
  refine spec_of Try.func4 rfl rfl rfl (fun B => ?_)
  refine kc_seq ?_
  refine kc_region ?_
  refine kl_as rfl ?_
  refine kl_nil ?_
  refine kq_code ?_
  refine kc_seq ?_
  refine kc_seq ?_
  refine kc_region ?_
  refine kl_mv rfl ?_
  refine kl_len rfl (by assumption) (fun l1 => ?_)
  refine kl_gtr rfl rfl ?_
  refine kl_nil ?_
  refine kq_code ?_
  refine kc_if rfl (fun c2 => ?_) (fun c2 => ?_)
  · skip
    refine kc_seq ?_
    refine kc_region ?_
    refine kl_as rfl ?_
    refine kl_nil ?_
    refine kq_code ?_
    refine kc_ret ?_
    refine kq_retP rfl rfl (congrArg Value.bool ?_)
    first | rfl | (simp; done) | exact plain_law (by assumption)
  · skip
    refine kc_skipQ ?_
    refine kq_code ?_
    refine kc_seq ?_
    refine kc_region ?_
    refine kl_mv rfl ?_
    refine kl_call rfl rfl (drawQt_ok code hcode) (fun v3 H4 f5 h6 => ?_)
    obtain ⟨z9, z14, u10, u11, u15, rfl, h12, h13, h16, h8⟩ := h6
    have hd1 := h8.1.d1
    have hd4 := h8.1.d
    refine kl_mv rfl ?_
    refine kl_xt rfl rfl ?_
    refine kl_xt rfl rfl ?_
    refine kl_alloc (cs := [.slice none 0 0, .slice none 0 0]) rfl (fun b17 hb18 => ?_)
    refine kl_stW (us := [u10, u11]) rfl rfl rfl rfl (oc (Sl.oneCell (by assumption)) (oc (Sl.oneCell (by assumption)) oc_nil)) rfl ?_
    refine kl_chg [sing b17 (.cells [u10, u11].toArray 26 (0, 0))] rfl ?_
    refine kl_as rfl ?_
    refine kl_nil ?_
    refine kq_code ?_
    refine kc_seq ?_
    refine kc_region ?_
    refine kl_ldW rfl rfl ?_
    refine kl_mv rfl ?_
    refine kl_callP rfl rfl (iqt_ok z9 z14 (by assumption) (by assumption) (by assumption)) ?_
    refine kl_as rfl ?_
    refine kl_nil ?_
    refine kq_code ?_
    refine kc_seq ?_
    refine kc_seq ?_
    refine kc_region ?_
    refine kl_mv rfl ?_
    refine kl_ldW rfl rfl ?_
    refine kl_mv rfl ?_
    refine kl_callP rfl rfl (siqt_ok z9 z14 (by assumption) (by assumption) (by assumption)) ?_
    refine kl_bne rfl rfl ?_
    refine kl_mv rfl ?_
    refine kl_join 4 29 (.bool (((qtrueB z9 z14) != (qtrueB z9 z14)) || !(validModB z9))) (pc 2 rfl (pc 3 rfl (pc 4 rfl (pc 5 rfl (pc 25 rfl pn))))) (fun J20 => ?_) ?_
    · rcases Bool.eq_false_or_eq_true ((qtrueB z9 z14) != (qtrueB z9 z14)) with g19 | g19
      · skip
        refine kl_gF rfl rfl g19 ?_
        refine kl_gF rfl rfl g19 ?_
        refine kl_gF rfl rfl g19 ?_
        refine kl_orT (!(validModB z9)) rfl rfl g19 ?_
        exact J20 _ (pc 29 rfl (pc 2 rfl (pc 3 rfl (pc 4 rfl (pc 5 rfl (pc 25 rfl pn))))))
      · skip
        have g19p := g19
        try simp only [Bool.not_eq_true', Bool.not_eq_false', decide_eq_true_eq, decide_eq_false_iff_not, Bool.and_eq_true, Bool.or_eq_false_iff, withinB_iff] at g19p
        refine kl_gT rfl rfl g19 ?_
        refine kl_ldW rfl rfl ?_
        refine kl_gT rfl rfl g19 ?_
        refine kl_callP rfl rfl (validMod_ok z9 (by assumption) (by assumption)) ?_
        refine kl_gT rfl rfl g19 ?_
        refine kl_not rfl ?_
        refine kl_orF rfl rfl g19 ?_
        exact J20 _ (pc 29 rfl (pc 2 rfl (pc 3 rfl (pc 4 rfl (pc 5 rfl (pc 25 rfl pn))))))
    refine kl_nil ?_
    refine kq_code ?_
    refine kc_cond rfl (fun c21 => ?_) (fun c21 => ?_)
    · skip
      have c21r := c21
      try simp only [Bool.not_eq_true', Bool.not_eq_false', Bool.not_true, Bool.not_false, decide_eq_true_eq, decide_eq_false_iff_not, Bool.and_eq_true, Bool.or_eq_false_iff] at c21
      refine kc_seq ?_
      refine kc_region ?_
      refine kl_mv rfl ?_
      refine kl_ldW rfl rfl ?_
      refine kl_mv rfl ?_
      refine kl_callP rfl rfl (siqt_ok z9 z14 (by assumption) (by assumption) (by assumption)) ?_
      refine kl_beq rfl rfl ?_
      refine kl_as rfl ?_
      refine kl_nil ?_
      refine kq_code ?_
      refine kc_ret ?_
      refine kq_retP rfl rfl (congrArg Value.bool ?_)
      first | rfl | (simp; done) | exact plain_law (by assumption)
    · skip
      have c21r := c21
      try simp only [Bool.not_eq_true', Bool.not_eq_false', Bool.not_true, Bool.not_false, decide_eq_true_eq, decide_eq_false_iff_not, Bool.and_eq_true, Bool.or_eq_false_iff] at c21
      have hM := qp_ok c21r
      have hn := hM.n
      refine kc_skipQ ?_
      refine kq_code ?_
      refine kc_seq ?_
      refine kc_region ?_
      refine kl_ldW rfl rfl ?_
      refine kl_callP rfl rfl (countSols_ok z9 (by assumption) (by assumption)) ?_
      refine kl_as rfl ?_
      refine kl_nil ?_
      refine kq_code ?_
      refine kc_seq ?_
      refine kc_tree (fun i => ([5] : List Nat).contains i) [sing b17 (.cells [u10, u11].toArray 26 (0, 0))] (by kernel_rfl) ?_
      refine kt_q 0 (.cons_cons _ (List.nil_sublist _)) rfl (by kernel_rfl) ?_
      refine kl_ldS rfl (at_box (T := 26) (cs := [u10, u11]) (off := 0) (fz := (0, 0))) rfl ?_
      refine kl_nil (kq_q ?_)
      refine kt_q 1 (.cons_cons _ (List.nil_sublist _)) rfl (by kernel_rfl) ?_
      refine kl_fdV rfl ?_
      refine kl_nil (kq_q ?_)
      refine kt_q 2 (.cons_cons _ (List.nil_sublist _)) rfl (by kernel_rfl) ?_
      refine kl_ld rfl (at_box (T := 26) (cs := [u10, u11]) (off := 0) (fz := (0, 0))) ?_
      refine kl_nil (kq_q ?_)
      refine kt_q 3 (.cons_cons _ (List.nil_sublist _)) rfl (by kernel_rfl) ?_
      refine kl_len rfl (by assumption) (fun l22 => ?_)
      refine kl_nil (kq_q ?_)
      refine kt_a 4 rfl (by kernel_rfl) ?_
      refine kl_call rfl rfl (allSame_ok (z9.doms.length : Int) false (by omega)) (fun v23 H24 f25 h26 => ?_)
      refine kl_nil (kq_a (.cons_cons _ (List.nil_sublist _)) ?_)
      refine kt_a 5 rfl (by kernel_rfl) ?_
      refine kl_callP rfl rfl (iqt_ok z9 (List.replicate (z9.doms.length : Int).toNat false) (by assumption) (by assumption) (by assumption)) ?_
      refine kl_nil (kq_x rfl ?_)
      refine kt_q 6 (.cons_cons _ (List.nil_sublist _)) rfl (by kernel_rfl) ?_
      refine kl_as rfl ?_
      refine kl_nil (kq_q ?_)
      refine kt_end (by kernel_rfl) ?_
      refine kq_code ?_
      refine kc_seq ?_
      refine kc_tree (fun i => ([5] : List Nat).contains i) [sing b17 (.cells [u10, u11].toArray 26 (0, 0))] (by kernel_rfl) ?_
      refine kt_q 0 (.cons_cons _ (List.nil_sublist _)) rfl (by kernel_rfl) ?_
      refine kl_ldS rfl (at_box (T := 26) (cs := [u10, u11]) (off := 0) (fz := (0, 0))) rfl ?_
      refine kl_nil (kq_q ?_)
      refine kt_q 1 (.cons_cons _ (List.nil_sublist _)) rfl (by kernel_rfl) ?_
      refine kl_fdV rfl ?_
      refine kl_nil (kq_q ?_)
      refine kt_q 2 (.cons_cons _ (List.nil_sublist _)) rfl (by kernel_rfl) ?_
      refine kl_ld rfl (at_box (T := 26) (cs := [u10, u11]) (off := 0) (fz := (0, 0))) ?_
      refine kl_nil (kq_q ?_)
      refine kt_q 3 (.cons_cons _ (List.nil_sublist _)) rfl (by kernel_rfl) ?_
      refine kl_len rfl (by assumption) (fun l27 => ?_)
      refine kl_nil (kq_q ?_)
      refine kt_a 4 rfl (by kernel_rfl) ?_
      refine kl_call rfl rfl (allSame_ok (z9.doms.length : Int) true (by omega)) (fun v28 H29 f30 h31 => ?_)
      refine kl_nil (kq_a (.cons_cons _ (List.nil_sublist _)) ?_)
      refine kt_a 5 rfl (by kernel_rfl) ?_
      refine kl_callP rfl rfl (iqt_ok z9 (List.replicate (z9.doms.length : Int).toNat true) (by assumption) (by assumption) (by assumption)) ?_
      refine kl_nil (kq_x rfl ?_)
      refine kt_q 6 (.cons_cons _ (List.nil_sublist _)) rfl (by kernel_rfl) ?_
      refine kl_as rfl ?_
      refine kl_nil (kq_q ?_)
      refine kt_end (by kernel_rfl) ?_
      refine kq_code ?_
      refine kc_seq ?_
      refine kc_region ?_
      refine kl_mv rfl ?_
      refine kl_mv rfl ?_
      refine kl_gtr rfl rfl ?_
      refine kl_beq rfl rfl ?_
      refine kl_mv rfl ?_
      refine kl_join 8 61 (.bool (((qtrueB z9 (List.replicate (z9.doms.length : Int).toNat false)) == decide ((0 : Int) < (cntI z9))) && ((qtrueB z9 (List.replicate (z9.doms.length : Int).toNat true)) == decide ((cntI z9) = (prodTo z9.doms z9.doms.length))))) (pc 2 rfl (pc 53 rfl pn)) (fun J33 => ?_) ?_
      · rcases Bool.eq_false_or_eq_true ((qtrueB z9 (List.replicate (z9.doms.length : Int).toNat false)) == decide ((0 : Int) < (cntI z9))) with g32 | g32
        · skip
          have g32p := g32
          try simp only [Bool.not_eq_true', Bool.not_eq_false', decide_eq_true_eq, decide_eq_false_iff_not, Bool.and_eq_true, Bool.or_eq_false_iff, withinB_iff] at g32p
          refine kl_gT rfl rfl g32 ?_
          refine kl_mv rfl ?_
          refine kl_gT rfl rfl g32 ?_
          refine kl_mv rfl ?_
          refine kl_gT rfl rfl g32 ?_
          refine kl_fdV rfl ?_
          refine kl_gT rfl rfl g32 ?_
          refine kl_ldB rfl rfl ?_
          refine kl_gT rfl rfl g32 ?_
          refine kl_callP rfl rfl (ltuples_ok z9.doms hM.n.2 hM.dok.d (by assumption)) ?_
          refine kl_gT rfl rfl g32 ?_
          refine kl_eql rfl rfl ?_
          refine kl_gT rfl rfl g32 ?_
          refine kl_beq rfl rfl ?_
          refine kl_andT rfl rfl g32 ?_
          exact J33 _ (pc 61 rfl (pc 2 rfl (pc 53 rfl pn)))
        · skip
          refine kl_gF rfl rfl g32 ?_
          refine kl_gF rfl rfl g32 ?_
          refine kl_gF rfl rfl g32 ?_
          refine kl_gF rfl rfl g32 ?_
          refine kl_gF rfl rfl g32 ?_
          refine kl_gF rfl rfl g32 ?_
          refine kl_gF rfl rfl g32 ?_
          refine kl_andF ((qtrueB z9 (List.replicate (z9.doms.length : Int).toNat true)) == decide ((cntI z9) = (prodTo z9.doms z9.doms.length))) rfl rfl g32 ?_
          exact J33 _ (pc 61 rfl (pc 2 rfl (pc 53 rfl pn)))
      refine kl_as rfl ?_
      refine kl_nil ?_
      refine kq_code ?_
      refine kc_ret ?_
      refine kq_retP rfl rfl (congrArg Value.bool ?_)
      first | rfl | (simp; done) | exact plain_law (by assumption)
end Go.Proofs.Ytigngogjgohfgaa
