/- Walks of functions of the program: each returns what the plain function gives. Conditions: those that each statement names. -/
import Derived.Test.YtmdjiggnbdgipaaWwin
import Derived.Test.YtmdjiggnbdgipaaWswin
import Derived.Test.YtmdjiggnbdgipaaWsz
import Derived.Test.YtmdjiggnbdgipaaWto
import Derived.Test.YtmdjiggnbdgipaaWeq
import Derived.Test.YtmdjiggnbdgipaaWbool
namespace Go.Proofs.Ytmdjiggnbdgipaa
open Go
set_option linter.unusedSimpArgs false
set_option linter.unusedVariables false
theorem lawIqt_ok {Hmd : Hp} {vmd : Value} {Hmc : Hp} {vmc : Value} {Hfa : Hp} {vfa : Value} (m : Mod) (fa : List Bool) (hmd : Ints Hmd vmd m.doms) (hmc : Cons Hmc vmc m.cons) (hfa : Bools Hfa vfa fa) : SpecP Try.prog 5 [.agg #[vmd, vmc], vfa] [Hmd, Hmc, Hfa] (.bool true) := by
  refine spec_of Try.func5 rfl rfl rfl (fun B => ?_)
  refine kc_seq ?_
  refine kc_region ?_
  refine kl_box rfl rfl (fun p1 H2 f3 a4 => ?_)
  refine kl_as rfl ?_
  refine kl_nil ?_
  refine kq_code ?_
  refine kc_seq ?_
  refine kc_seq ?_
  refine kc_region ?_
  refine kl_mv rfl ?_
  refine kl_len rfl (by assumption) (fun l5 => ?_)
  refine kl_gtr rfl rfl ?_
  refine kl_nil ?_
  refine kq_code ?_
  refine kc_if rfl (fun c6 => ?_) (fun c6 => ?_)
  · skip
    refine kc_seq ?_
    refine kc_region ?_
    refine kl_as rfl ?_
    refine kl_nil ?_
    refine kq_code ?_
    refine kc_ret ?_
    refine kq_retP rfl rfl (congrArg Value.bool ?_)
    first | rfl | (exfalso; simp at *; done) | (exfalso; simp [wval_eq] at *; done) | (exfalso; simp_all)
  · skip
    refine kc_skipQ ?_
    refine kq_code ?_
    refine kc_seq ?_
    refine kc_region ?_
    refine kl_as rfl ?_
    refine kl_nil ?_
    refine kq_code ?_
    refine kc_seq ?_
    refine kc_region ?_
    refine kl_ldS rfl (by assumption) rfl ?_
    refine kl_mv rfl ?_
    refine kl_callP rfl rfl (szModel_ok m (1048576 : Int) (by omega) (by assumption) (by assumption)) ?_
    refine kl_as rfl ?_
    refine kl_nil ?_
    refine kq_code ?_
    refine kc_seq ?_
    refine kc_seq ?_
    refine kc_region ?_
    refine kl_mv rfl ?_
    refine kl_lss rfl rfl ?_
    refine kl_nil ?_
    refine kq_code ?_
    refine kc_if rfl (fun c7 => ?_) (fun c7 => ?_)
    · skip
      refine kc_seq ?_
      refine kc_region ?_
      refine kl_as rfl ?_
      refine kl_nil ?_
      refine kq_code ?_
      refine kc_ret ?_
      refine kq_retP rfl rfl (congrArg Value.bool ?_)
      first | rfl | (exfalso; simp at *; done) | (exfalso; simp [wval_eq] at *; done) | (exfalso; simp_all)
    · skip
      have hs := small_of (szB_ok c7)
      refine kc_skipQ ?_
      refine kq_code ?_
      refine kc_seq ?_
      refine kc_region ?_
      refine kl_ldS rfl (by assumption) rfl ?_
      refine kl_call rfl rfl (toModel_ok m hs (by assumption) (by assumption)) (fun v8 H9 f10 h11 => ?_)
      obtain ⟨u12, u13, rfl, h14, h15⟩ := h11
      refine kl_mv rfl ?_
      refine kl_call rfl rfl (toBoolS_ok fa (by omega) (by assumption)) (fun v16 H17 f18 h19 => ?_)
      refine kl_callP rfl rfl (siqt_ok m fa (by assumption) (by assumption) (by assumption)) ?_
      refine kl_as rfl ?_
      refine kl_nil ?_
      refine kq_code ?_
      refine kc_seq ?_
      refine kc_region ?_
      refine kl_ldS rfl (by assumption) rfl ?_
      refine kl_call rfl rfl (toModel_ok m hs (by assumption) (by assumption)) (fun v20 H21 f22 h23 => ?_)
      obtain ⟨u24, u25, rfl, h26, h27⟩ := h23
      refine kl_alloc (cs := [.slice none 0 0, .slice none 0 0]) rfl (fun b28 hb29 => ?_)
      refine kl_stW (us := [u24, u25]) rfl rfl rfl rfl (oc (Sl.oneCell (by assumption)) (oc (Sl.oneCell (by assumption)) oc_nil)) rfl ?_
      refine kl_nil ?_
      refine kq_code ?_
      refine kc_seq ?_
      refine kc_region ?_
      refine kl_mv rfl ?_
      refine kl_call rfl rfl (toBoolS_ok fa (by omega) (by assumption)) (fun v30 H31 f32 h33 => ?_)
      refine kl_as rfl ?_
      refine kl_nil ?_
      refine kq_code ?_
      refine kc_seq ?_
      refine kc_region ?_
      refine kl_ldW rfl rfl ?_
      refine kl_mv rfl ?_
      refine kl_callP rfl rfl (iqt_ok m fa (by assumption) (by assumption) (by assumption)) ?_
      refine kl_as rfl ?_
      refine kl_nil ?_
      refine kq_code ?_
      refine kc_seq ?_
      refine kc_seq ?_
      refine kc_region ?_
      refine kl_mv rfl ?_
      refine kl_mv rfl ?_
      refine kl_bne rfl rfl ?_
      refine kl_nil ?_
      refine kq_code ?_
      refine kc_cond rfl (fun c34 => ?_) (fun c34 => ?_)
      · skip
        have c34r := c34
        try simp only [Bool.not_eq_true', Bool.not_eq_false', Bool.not_true, Bool.not_false, decide_eq_true_eq, decide_eq_false_iff_not, Bool.and_eq_true, Bool.or_eq_false_iff] at c34
        refine kc_seq ?_
        refine kc_region ?_
        refine kl_as rfl ?_
        refine kl_nil ?_
        refine kq_code ?_
        refine kc_ret ?_
        refine kq_retP rfl rfl (congrArg Value.bool ?_)
        first | rfl | (exfalso; simp at *; done) | (exfalso; simp [wval_eq] at *; done) | (exfalso; simp_all)
      · skip
        have c34r := c34
        try simp only [Bool.not_eq_true', Bool.not_eq_false', Bool.not_true, Bool.not_false, decide_eq_true_eq, decide_eq_false_iff_not, Bool.and_eq_true, Bool.or_eq_false_iff] at c34
        refine kc_skipQ ?_
        refine kq_code ?_
        refine kc_seq ?_
        refine kc_seq ?_
        refine kc_draw 5 [true, true, false, false, true] (by kernel_rfl) (by kernel_rfl) ?_
        refine kl_ldW rfl rfl ?_
        refine kl_ldS rfl (by assumption) rfl ?_
        refine kl_call rfl rfl (toModel_ok m hs (by assumption) (by assumption)) (fun v35 H36 f37 h38 => ?_)
        obtain ⟨u39, u40, rfl, h41, h42⟩ := h38
        refine kl_callP rfl rfl (eqModel_ok m m (by assumption) (by assumption) (by assumption) (by assumption)) ?_
        refine kl_not rfl ?_
        refine kl_nil ?_
        refine kq_code ?_
        refine kc_cond rfl (fun c43 => ?_) (fun c43 => ?_)
        · skip
          have c43r := c43
          try simp only [Bool.not_eq_true', Bool.not_eq_false', Bool.not_true, Bool.not_false, decide_eq_true_eq, decide_eq_false_iff_not, Bool.and_eq_true, Bool.or_eq_false_iff] at c43
          refine kc_seq ?_
          refine kc_region ?_
          refine kl_as rfl ?_
          refine kl_nil ?_
          refine kq_code ?_
          refine kc_ret ?_
          refine kq_retP rfl rfl (congrArg Value.bool ?_)
          first | rfl | (exfalso; simp at *; done) | (exfalso; simp [wval_eq] at *; done) | (exfalso; simp_all)
        · skip
          have c43r := c43
          try simp only [Bool.not_eq_true', Bool.not_eq_false', Bool.not_true, Bool.not_false, decide_eq_true_eq, decide_eq_false_iff_not, Bool.and_eq_true, Bool.or_eq_false_iff] at c43
          refine kc_skipQ ?_
          refine kq_code ?_
          refine kc_seq ?_
          refine kc_seq ?_
          refine kc_region ?_
          refine kl_mv rfl ?_
          refine kl_mv rfl ?_
          refine kl_call rfl rfl (toBoolS_ok fa (by omega) (by assumption)) (fun v44 H45 f46 h47 => ?_)
          refine kl_callP rfl rfl (eqBoolS_ok fa fa (by assumption) (by assumption)) ?_
          refine kl_not rfl ?_
          refine kl_nil ?_
          refine kq_code ?_
          refine kc_cond rfl (fun c48 => ?_) (fun c48 => ?_)
          · skip
            have c48r := c48
            try simp only [Bool.not_eq_true', Bool.not_eq_false', Bool.not_true, Bool.not_false, decide_eq_true_eq, decide_eq_false_iff_not, Bool.and_eq_true, Bool.or_eq_false_iff] at c48
            refine kc_seq ?_
            refine kc_region ?_
            refine kl_as rfl ?_
            refine kl_nil ?_
            refine kq_code ?_
            refine kc_ret ?_
            refine kq_retP rfl rfl (congrArg Value.bool ?_)
            first | rfl | (exfalso; simp at *; done) | (exfalso; simp [wval_eq] at *; done) | (exfalso; simp_all)
          · skip
            have c48r := c48
            try simp only [Bool.not_eq_true', Bool.not_eq_false', Bool.not_true, Bool.not_false, decide_eq_true_eq, decide_eq_false_iff_not, Bool.and_eq_true, Bool.or_eq_false_iff] at c48
            refine kc_skipQ ?_
            refine kq_code ?_
            refine kc_seq ?_
            refine kc_region ?_
            refine kl_as rfl ?_
            refine kl_nil ?_
            refine kq_code ?_
            refine kc_ret ?_
            refine kq_retP rfl rfl (congrArg Value.bool ?_)
            first | rfl | (exfalso; simp at *; done) | (exfalso; simp [wval_eq] at *; done) | (exfalso; simp_all)
theorem lawWv_ok {Hmd : Hp} {vmd : Value} {Hmc : Hp} {vmc : Value} {Hfa : Hp} {vfa : Value} (m : Mod) (fa : List Bool) (hmd : Ints Hmd vmd m.doms) (hmc : Cons Hmc vmc m.cons) (hfa : Bools Hfa vfa fa) : SpecP Try.prog 6 [.agg #[vmd, vmc], vfa] [Hmd, Hmc, Hfa] (.bool true) := by
  refine spec_of Try.func6 rfl rfl rfl (fun B => ?_)
  refine kc_seq ?_
  refine kc_region ?_
  refine kl_box rfl rfl (fun p1 H2 f3 a4 => ?_)
  refine kl_as rfl ?_
  refine kl_nil ?_
  refine kq_code ?_
  refine kc_seq ?_
  refine kc_seq ?_
  refine kc_region ?_
  refine kl_mv rfl ?_
  refine kl_len rfl (by assumption) (fun l5 => ?_)
  refine kl_gtr rfl rfl ?_
  refine kl_nil ?_
  refine kq_code ?_
  refine kc_if rfl (fun c6 => ?_) (fun c6 => ?_)
  · skip
    refine kc_seq ?_
    refine kc_region ?_
    refine kl_as rfl ?_
    refine kl_nil ?_
    refine kq_code ?_
    refine kc_ret ?_
    refine kq_retP rfl rfl (congrArg Value.bool ?_)
    first | rfl | (exfalso; simp at *; done) | (exfalso; simp [wval_eq] at *; done) | (exfalso; simp_all)
  · skip
    refine kc_skipQ ?_
    refine kq_code ?_
    refine kc_seq ?_
    refine kc_region ?_
    refine kl_as rfl ?_
    refine kl_nil ?_
    refine kq_code ?_
    refine kc_seq ?_
    refine kc_region ?_
    refine kl_ldS rfl (by assumption) rfl ?_
    refine kl_mv rfl ?_
    refine kl_callP rfl rfl (szModel_ok m (1048576 : Int) (by omega) (by assumption) (by assumption)) ?_
    refine kl_as rfl ?_
    refine kl_nil ?_
    refine kq_code ?_
    refine kc_seq ?_
    refine kc_seq ?_
    refine kc_region ?_
    refine kl_mv rfl ?_
    refine kl_lss rfl rfl ?_
    refine kl_nil ?_
    refine kq_code ?_
    refine kc_if rfl (fun c7 => ?_) (fun c7 => ?_)
    · skip
      refine kc_seq ?_
      refine kc_region ?_
      refine kl_as rfl ?_
      refine kl_nil ?_
      refine kq_code ?_
      refine kc_ret ?_
      refine kq_retP rfl rfl (congrArg Value.bool ?_)
      first | rfl | (exfalso; simp at *; done) | (exfalso; simp [wval_eq] at *; done) | (exfalso; simp_all)
    · skip
      have hs := small_of (szB_ok c7)
      refine kc_skipQ ?_
      refine kq_code ?_
      refine kc_seq ?_
      refine kc_region ?_
      refine kl_ldS rfl (by assumption) rfl ?_
      refine kl_call rfl rfl (toModel_ok m hs (by assumption) (by assumption)) (fun v8 H9 f10 h11 => ?_)
      obtain ⟨u12, u13, rfl, h14, h15⟩ := h11
      refine kl_mv rfl ?_
      refine kl_call rfl rfl (toBoolS_ok fa (by omega) (by assumption)) (fun v16 H17 f18 h19 => ?_)
      refine kl_callP rfl rfl (swv_ok m fa (by assumption) (by assumption) (by assumption)) ?_
      refine kl_as rfl ?_
      refine kl_nil ?_
      refine kq_code ?_
      refine kc_seq ?_
      refine kc_region ?_
      refine kl_ldS rfl (by assumption) rfl ?_
      refine kl_call rfl rfl (toModel_ok m hs (by assumption) (by assumption)) (fun v20 H21 f22 h23 => ?_)
      obtain ⟨u24, u25, rfl, h26, h27⟩ := h23
      refine kl_alloc (cs := [.slice none 0 0, .slice none 0 0]) rfl (fun b28 hb29 => ?_)
      refine kl_stW (us := [u24, u25]) rfl rfl rfl rfl (oc (Sl.oneCell (by assumption)) (oc (Sl.oneCell (by assumption)) oc_nil)) rfl ?_
      refine kl_nil ?_
      refine kq_code ?_
      refine kc_seq ?_
      refine kc_region ?_
      refine kl_mv rfl ?_
      refine kl_call rfl rfl (toBoolS_ok fa (by omega) (by assumption)) (fun v30 H31 f32 h33 => ?_)
      refine kl_as rfl ?_
      refine kl_nil ?_
      refine kq_code ?_
      refine kc_seq ?_
      refine kc_region ?_
      refine kl_ldW rfl rfl ?_
      refine kl_mv rfl ?_
      refine kl_callP rfl rfl (iwv_ok m fa (by assumption) (by assumption) (by assumption)) ?_
      refine kl_as rfl ?_
      refine kl_nil ?_
      refine kq_code ?_
      refine kc_seq ?_
      refine kc_seq ?_
      refine kc_region ?_
      refine kl_mv rfl ?_
      refine kl_mv rfl ?_
      refine kl_neq rfl rfl ?_
      refine kl_nil ?_
      refine kq_code ?_
      refine kc_if rfl (fun c34 => ?_) (fun c34 => ?_)
      · skip
        refine kc_seq ?_
        refine kc_region ?_
        refine kl_as rfl ?_
        refine kl_nil ?_
        refine kq_code ?_
        refine kc_ret ?_
        refine kq_retP rfl rfl (congrArg Value.bool ?_)
        first | rfl | (exfalso; simp at *; done) | (exfalso; simp [wval_eq] at *; done) | (exfalso; simp_all)
      · skip
        refine kc_skipQ ?_
        refine kq_code ?_
        refine kc_seq ?_
        refine kc_seq ?_
        refine kc_draw 5 [true, true, false, false, true] (by kernel_rfl) (by kernel_rfl) ?_
        refine kl_ldW rfl rfl ?_
        refine kl_ldS rfl (by assumption) rfl ?_
        refine kl_call rfl rfl (toModel_ok m hs (by assumption) (by assumption)) (fun v35 H36 f37 h38 => ?_)
        obtain ⟨u39, u40, rfl, h41, h42⟩ := h38
        refine kl_callP rfl rfl (eqModel_ok m m (by assumption) (by assumption) (by assumption) (by assumption)) ?_
        refine kl_not rfl ?_
        refine kl_nil ?_
        refine kq_code ?_
        refine kc_cond rfl (fun c43 => ?_) (fun c43 => ?_)
        · skip
          have c43r := c43
          try simp only [Bool.not_eq_true', Bool.not_eq_false', Bool.not_true, Bool.not_false, decide_eq_true_eq, decide_eq_false_iff_not, Bool.and_eq_true, Bool.or_eq_false_iff] at c43
          refine kc_seq ?_
          refine kc_region ?_
          refine kl_as rfl ?_
          refine kl_nil ?_
          refine kq_code ?_
          refine kc_ret ?_
          refine kq_retP rfl rfl (congrArg Value.bool ?_)
          first | rfl | (exfalso; simp at *; done) | (exfalso; simp [wval_eq] at *; done) | (exfalso; simp_all)
        · skip
          have c43r := c43
          try simp only [Bool.not_eq_true', Bool.not_eq_false', Bool.not_true, Bool.not_false, decide_eq_true_eq, decide_eq_false_iff_not, Bool.and_eq_true, Bool.or_eq_false_iff] at c43
          refine kc_skipQ ?_
          refine kq_code ?_
          refine kc_seq ?_
          refine kc_seq ?_
          refine kc_region ?_
          refine kl_mv rfl ?_
          refine kl_mv rfl ?_
          refine kl_call rfl rfl (toBoolS_ok fa (by omega) (by assumption)) (fun v44 H45 f46 h47 => ?_)
          refine kl_callP rfl rfl (eqBoolS_ok fa fa (by assumption) (by assumption)) ?_
          refine kl_not rfl ?_
          refine kl_nil ?_
          refine kq_code ?_
          refine kc_cond rfl (fun c48 => ?_) (fun c48 => ?_)
          · skip
            have c48r := c48
            try simp only [Bool.not_eq_true', Bool.not_eq_false', Bool.not_true, Bool.not_false, decide_eq_true_eq, decide_eq_false_iff_not, Bool.and_eq_true, Bool.or_eq_false_iff] at c48
            refine kc_seq ?_
            refine kc_region ?_
            refine kl_as rfl ?_
            refine kl_nil ?_
            refine kq_code ?_
            refine kc_ret ?_
            refine kq_retP rfl rfl (congrArg Value.bool ?_)
            first | rfl | (exfalso; simp at *; done) | (exfalso; simp [wval_eq] at *; done) | (exfalso; simp_all)
          · skip
            have c48r := c48
            try simp only [Bool.not_eq_true', Bool.not_eq_false', Bool.not_true, Bool.not_false, decide_eq_true_eq, decide_eq_false_iff_not, Bool.and_eq_true, Bool.or_eq_false_iff] at c48
            refine kc_skipQ ?_
            refine kq_code ?_
            refine kc_seq ?_
            refine kc_region ?_
            refine kl_as rfl ?_
            refine kl_nil ?_
            refine kq_code ?_
            refine kc_ret ?_
            refine kq_retP rfl rfl (congrArg Value.bool ?_)
            first | rfl | (exfalso; simp at *; done) | (exfalso; simp [wval_eq] at *; done) | (exfalso; simp_all)
end Go.Proofs.Ytmdjiggnbdgipaa
