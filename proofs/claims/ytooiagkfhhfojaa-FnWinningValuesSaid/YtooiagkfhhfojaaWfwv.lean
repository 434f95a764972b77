/- Walks of functions of the program: each returns what the plain function gives. Conditions: those that each statement names. -/
import Derived.Test.YtooiagkfhhfojaaWdq
import Derived.Test.YtooiagkfhhfojaaWwin
import Derived.Test.YtooiagkfhhfojaaWswin
import Derived.Test.YtooiagkfhhfojaaPureN
namespace Go.Proofs.Ytooiagkfhhfojaa
open Go
set_option linter.unusedSimpArgs false
set_option linter.unusedVariables false
theorem lawFnWv_ok {Hcode : Hp} {vcode : Value} (code : List Int) (hcode : Bytes Hcode vcode code) : SpecP Try.prog 4 [vcode] [Hcode] (.bool true) := by
  refine spec_of Try.func4 rfl rfl rfl (fun B => ?_)
  refine kc_seq ?_
  refine kc_region ?_
  refine kl_as rfl ?_
  refine kl_nil ?_
  refine kq_code ?_
  refine kc_seq ?_
  refine kc_seq ?_
  refine kc_region ?_
  refine kl_mv rfl ?_
  refine kl_len rfl (by assumption) (fun l1 => ?_)
  refine kl_gtr rfl rfl ?_
  refine kl_nil ?_
  refine kq_code ?_
  refine kc_if rfl (fun c2 => ?_) (fun c2 => ?_)
  · skip
    refine kc_seq ?_
    refine kc_region ?_
    refine kl_as rfl ?_
    refine kl_nil ?_
    refine kq_code ?_
    refine kc_ret ?_
    refine kq_retP rfl rfl (congrArg Value.bool ?_)
    first | rfl | (rw [wval_eq]; simp; done) | exact wlaw_T hf (by assumption) | exact wlaw_F hf (by assumption)
  · skip
    refine kc_skipQ ?_
    refine kq_code ?_
    refine kc_seq ?_
    refine kc_region ?_
    refine kl_mv rfl ?_
    refine kl_call rfl rfl (drawWv_ok code hcode) (fun v3 H4 f5 h6 => ?_)
    obtain ⟨z9, z14, u10, u11, u15, rfl, h12, h13, h16, h8⟩ := h6
    have hd1 := h8.1.d1
    have hd4 := h8.1.d
    refine kl_mv rfl ?_
    refine kl_xt rfl rfl ?_
    refine kl_xt rfl rfl ?_
    refine kl_alloc (cs := [.slice none 0 0, .slice none 0 0]) rfl (fun b17 hb18 => ?_)
    refine kl_stW (us := [u10, u11]) rfl rfl rfl rfl (oc (Sl.oneCell (by assumption)) (oc (Sl.oneCell (by assumption)) oc_nil)) rfl ?_
    refine kl_chg [sing b17 (.cells [u10, u11].toArray 26 (0, 0))] rfl ?_
    refine kl_as rfl ?_
    refine kl_nil ?_
    refine kq_code ?_
    refine kc_seq ?_
    refine kc_region ?_
    refine kl_ldW rfl rfl ?_
    refine kl_mv rfl ?_
    refine kl_callP rfl rfl (iwv_ok z9 z14 (by assumption) (by assumption) (by assumption)) ?_
    refine kl_as rfl ?_
    refine kl_nil ?_
    refine kq_code ?_
    refine kc_seq ?_
    refine kc_seq ?_
    refine kc_region ?_
    refine kl_mv rfl ?_
    refine kl_ldW rfl rfl ?_
    refine kl_mv rfl ?_
    refine kl_callP rfl rfl (swv_ok z9 z14 (by assumption) (by assumption) (by assumption)) ?_
    refine kl_neq rfl rfl ?_
    refine kl_mv rfl ?_
    refine kl_join 4 27 (.bool (decide ((wvalI z9 z14) ≠ (wvalS z9 z14)) || !(validModB z9))) (pc 2 rfl (pc 3 rfl (pc 4 rfl (pc 5 rfl (pc 23 rfl pn))))) (fun J20 => ?_) ?_
    · rcases Bool.eq_false_or_eq_true (decide ((wvalI z9 z14) ≠ (wvalS z9 z14))) with g19 | g19
      · skip
        refine kl_gF rfl rfl g19 ?_
        refine kl_gF rfl rfl g19 ?_
        refine kl_gF rfl rfl g19 ?_
        refine kl_orT (!(validModB z9)) rfl rfl g19 ?_
        exact J20 _ (pc 27 rfl (pc 2 rfl (pc 3 rfl (pc 4 rfl (pc 5 rfl (pc 23 rfl pn))))))
      · skip
        have g19p := of_decide_eq_false g19
        refine kl_gT rfl rfl g19 ?_
        refine kl_ldW rfl rfl ?_
        refine kl_gT rfl rfl g19 ?_
        refine kl_callP rfl rfl (validMod_ok z9 (by assumption) (by assumption)) ?_
        refine kl_gT rfl rfl g19 ?_
        refine kl_not rfl ?_
        refine kl_orF rfl rfl g19 ?_
        exact J20 _ (pc 27 rfl (pc 2 rfl (pc 3 rfl (pc 4 rfl (pc 5 rfl (pc 23 rfl pn))))))
    refine kl_mv rfl ?_
    refine kl_join 7 35 (.bool ((decide ((wvalI z9 z14) ≠ (wvalS z9 z14)) || !(validModB z9)) || decide ((z14.length : Int) ≠ (z9.doms.length : Int)))) (pc 2 rfl (pc 3 rfl (pc 4 rfl (pc 5 rfl (pc 28 rfl pn))))) (fun J24 => ?_) ?_
    · rcases Bool.eq_false_or_eq_true (decide ((wvalI z9 z14) ≠ (wvalS z9 z14)) || !(validModB z9)) with g21 | g21
      · skip
        refine kl_gF rfl rfl g21 ?_
        refine kl_gF rfl rfl g21 ?_
        refine kl_gF rfl rfl g21 ?_
        refine kl_gF rfl rfl g21 ?_
        refine kl_gF rfl rfl g21 ?_
        refine kl_gF rfl rfl g21 ?_
        refine kl_orT (decide ((z14.length : Int) ≠ (z9.doms.length : Int))) rfl rfl g21 ?_
        exact J24 _ (pc 35 rfl (pc 2 rfl (pc 3 rfl (pc 4 rfl (pc 5 rfl (pc 28 rfl pn))))))
      · skip
        have g21p := g21
        try simp only [Bool.not_eq_true', Bool.not_eq_false', decide_eq_true_eq, decide_eq_false_iff_not, Bool.and_eq_true, Bool.or_eq_false_iff, withinB_iff] at g21p
        refine kl_gT rfl rfl g21 ?_
        refine kl_mv rfl ?_
        refine kl_gT rfl rfl g21 ?_
        refine kl_len rfl (by assumption) (fun l22 => ?_)
        refine kl_gT rfl rfl g21 ?_
        refine kl_fdV rfl ?_
        refine kl_gT rfl rfl g21 ?_
        refine kl_ldB rfl rfl ?_
        refine kl_gT rfl rfl g21 ?_
        refine kl_len rfl (by assumption) (fun l23 => ?_)
        refine kl_gT rfl rfl g21 ?_
        refine kl_neq rfl rfl ?_
        refine kl_orF rfl rfl g21 ?_
        exact J24 _ (pc 35 rfl (pc 2 rfl (pc 3 rfl (pc 4 rfl (pc 5 rfl (pc 28 rfl pn))))))
    refine kl_nil ?_
    refine kq_code ?_
    refine kc_cond rfl (fun c25 => ?_) (fun c25 => ?_)
    · skip
      have c25r := c25
      try simp only [Bool.not_eq_true', Bool.not_eq_false', Bool.not_true, Bool.not_false, decide_eq_true_eq, decide_eq_false_iff_not, Bool.and_eq_true, Bool.or_eq_false_iff] at c25
      refine kc_seq ?_
      refine kc_region ?_
      refine kl_mv rfl ?_
      refine kl_ldW rfl rfl ?_
      refine kl_mv rfl ?_
      refine kl_callP rfl rfl (swv_ok z9 z14 (by assumption) (by assumption) (by assumption)) ?_
      refine kl_eql rfl rfl ?_
      refine kl_as rfl ?_
      refine kl_nil ?_
      refine kq_code ?_
      refine kc_ret ?_
      refine kq_retP rfl rfl (congrArg Value.bool ?_)
      first | rfl | (rw [wval_eq]; simp; done) | exact wlaw_T hf (by assumption) | exact wlaw_F hf (by assumption)
    · skip
      have c25r := c25
      try simp only [Bool.not_eq_true', Bool.not_eq_false', Bool.not_true, Bool.not_false, decide_eq_true_eq, decide_eq_false_iff_not, Bool.and_eq_true, Bool.or_eq_false_iff] at c25
      have hg := grd3 c25r; have hf := fok_of hg.1 hg.2; have hg2 := hg.2
      refine kc_skipQ ?_
      refine kq_code ?_
      refine kc_seq ?_
      refine kc_region ?_
      refine kl_ldW rfl rfl ?_
      refine kl_mv rfl ?_
      refine kl_callP rfl rfl (iqt_ok z9 z14 (by assumption) (by assumption) (by assumption)) ?_
      refine kl_as rfl ?_
      refine kl_nil ?_
      refine kq_code ?_
      refine kc_seq ?_
      refine kc_seq ?_
      refine kc_region ?_
      refine kl_mv rfl ?_
      refine kl_inB (i := 0) rfl rfl (by assumption) (by omega) (fun p26 a27 => ?_)
      refine kl_ld rfl (by assumption) ?_
      refine kl_nil ?_
      refine kq_code ?_
      refine kc_cond rfl (fun c28 => ?_) (fun c28 => ?_)
      · skip
        have c28r := c28
        try simp only [Bool.not_eq_true', Bool.not_eq_false', Bool.not_true, Bool.not_false, decide_eq_true_eq, decide_eq_false_iff_not, Bool.and_eq_true, Bool.or_eq_false_iff] at c28
        refine kc_seq ?_
        refine kc_region ?_
        refine kl_mv rfl ?_
        refine kl_mv rfl ?_
        refine kl_fdV rfl ?_
        refine kl_ldB rfl rfl ?_
        refine kl_inI (i := 0) rfl rfl (by assumption) (by omega) (fun p29 a30 => ?_)
        refine kl_ld rfl (by assumption) ?_
        refine kl_eql rfl rfl ?_
        refine kl_beq rfl rfl ?_
        refine kl_as rfl ?_
        refine kl_nil ?_
        refine kq_code ?_
        refine kc_ret ?_
        refine kq_retP rfl rfl (congrArg Value.bool ?_)
        first | rfl | (rw [wval_eq]; simp; done) | exact wlaw_T hf (by assumption) | exact wlaw_F hf (by assumption)
      · skip
        have c28r := c28
        try simp only [Bool.not_eq_true', Bool.not_eq_false', Bool.not_true, Bool.not_false, decide_eq_true_eq, decide_eq_false_iff_not, Bool.and_eq_true, Bool.or_eq_false_iff] at c28
        refine kc_skipQ ?_
        refine kq_code ?_
        refine kc_seq ?_
        refine kc_region ?_
        refine kl_mv rfl ?_
        refine kl_fdV rfl ?_
        refine kl_ldB rfl rfl ?_
        refine kl_inI (i := 0) rfl rfl (by assumption) (by omega) (fun p31 a32 => ?_)
        refine kl_ld rfl (by assumption) ?_
        refine kl_and rfl rfl ?_
        refine kl_mv rfl ?_
        refine kl_eql rfl rfl ?_
        refine kl_mv rfl ?_
        refine kl_join 5 68 (.bool (decide ((iand (wvalI z9 z14) (z9.doms.getD 0 0)) = (wvalI z9 z14)) && ((qtrueB z9 z14) == decide ((wvalI z9 z14) ≠ (0 : Int))))) (pc 2 rfl (pc 63 rfl pn)) (fun J34 => ?_) ?_
        · rcases Bool.eq_false_or_eq_true (decide ((iand (wvalI z9 z14) (z9.doms.getD 0 0)) = (wvalI z9 z14))) with g33 | g33
          · skip
            have g33p := of_decide_eq_true g33
            refine kl_gT rfl rfl g33 ?_
            refine kl_mv rfl ?_
            refine kl_gT rfl rfl g33 ?_
            refine kl_mv rfl ?_
            refine kl_gT rfl rfl g33 ?_
            refine kl_neq rfl rfl ?_
            refine kl_gT rfl rfl g33 ?_
            refine kl_beq rfl rfl ?_
            refine kl_andT rfl rfl g33 ?_
            exact J34 _ (pc 68 rfl (pc 2 rfl (pc 63 rfl pn)))
          · skip
            refine kl_gF rfl rfl g33 ?_
            refine kl_gF rfl rfl g33 ?_
            refine kl_gF rfl rfl g33 ?_
            refine kl_gF rfl rfl g33 ?_
            refine kl_andF ((qtrueB z9 z14) == decide ((wvalI z9 z14) ≠ (0 : Int))) rfl rfl g33 ?_
            exact J34 _ (pc 68 rfl (pc 2 rfl (pc 63 rfl pn)))
        refine kl_as rfl ?_
        refine kl_nil ?_
        refine kq_code ?_
        refine kc_ret ?_
        refine kq_retP rfl rfl (congrArg Value.bool ?_)
        first | rfl | (rw [wval_eq]; simp; done) | exact wlaw_T hf (by assumption) | exact wlaw_F hf (by assumption)
end Go.Proofs.Ytooiagkfhhfojaa
